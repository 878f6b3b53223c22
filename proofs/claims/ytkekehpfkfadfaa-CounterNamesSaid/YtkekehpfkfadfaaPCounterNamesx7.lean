-- out of a turned copy of the print, by a program of this session; Lean checks it
import Derived.Test.YtkekehpfkfadfaaPCounterNamesx0
import Derived.Test.YtkekehpfkfadfaaPCounterNamesx2
import Derived.Test.YtkekehpfkfadfaaPCounterNamesx3
import Derived.Test.YtkekehpfkfadfaaPCounterNamesx5
import Derived.Test.YtkekehpfkfadfaaPCounterNamesx6
namespace Go.Proofs.Ytkekehpfkfadfaa.PCounterNames
open Go.RowKit Go.Proofs.YtkekehpfkfadfaaW.PrintWords Go.Proofs.YtkekehpfkfadfaaW.PrintLast Go.Proofs.YtkekehpfkfadfaaW.PrintMore
attribute [local go_sem] max2_int min2_int max_two min_two max_three min_three max_four min_four   -- for this text's walks alone
set_option linter.unusedVariables false
set_option linter.unusedSimpArgs false

attribute [local go_sem] isSome_put_
/-! ### standstilllaw06_CounterNames: function 3 -/
mutual
def standstilllaw06_CounterNames.j0 : Nat → List Int → Int → Int → Bool → Int → List (S33) → Int → List Int → Option (Bool)
 | 0, _, _, _, _, _, _, _, _ => none
 | k + 1, x2, x3, x4, x57, x153000, x153001, x154000, x154001 => if x57 = true then ((standstilllaw06_awake.f k).bind fun t156 => (some t156)) else (if 0 ≤ (wrap64 (x153000 + 1)) then (if (wrap64 (x153000 + 1) : Int).toNat ≤ 35184372088832 then (if (wrap64 (x153000 + 1) : Int).toNat ≤ 281474976710656 then (standstilllaw06_CounterNames.l0 k x2 x3 x4 (List.replicate (wrap64 (x153000 + 1) : Int).toNat 0) (List.replicate (wrap64 (x153000 + 1) : Int).toNat false) 0 x153000 x153001 x154000 x154001) else (none)) else (none)) else (none))
def standstilllaw06_CounterNames.l0 : Nat → List Int → Int → Int → List Int → List Bool → Int → Int → List (S33) → Int → List Int → Option (Bool)
 | 0, _, _, _, _, _, _, _, _, _, _ => none
 | k + 1, x2, x3, x4, x11, x12, x13, x153000, x153001, x154000, x154001 => if x13 < x153000 then (if 0 ≤ x13 then (if x13 < (x2.length : Int) then (if (rd x2 x13) < 0 then ((standstilllaw06_awake.f k).bind fun t164 => (some t164)) else (if (rd x2 x13) > x153000 then ((standstilllaw06_awake.f k).bind fun t166 => (some t166)) else (if 0 ≤ (rd x2 x13) then (if (rd x2 x13) < (x12.length : Int) then (if rdOf false x12 (rd x2 x13) = true then ((standstilllaw06_awake.f k).bind fun t169 => (some t169)) else (if x13 < (x154001.length : Int) then (if (rd x2 x13) < (x11.length : Int) then (standstilllaw06_CounterNames.l0 k x2 x3 x4 (x11.set ((rd x2 x13) : Int).toNat (rd x154001 x13)) (x12.set ((rd x2 x13) : Int).toNat true) (wrap64 (x13 + 1)) x153000 x153001 x154000 x154001) else (none)) else (none))) else (none)) else (none)))) else (none)) else (none)) else (standstilllaw06_CounterNames.l1 k x2 x3 x4 x11 x12 0 x153000 x153001 x154000 x154001)
def standstilllaw06_CounterNames.l1 : Nat → List Int → Int → Int → List Int → List Bool → Int → Int → List (S33) → Int → List Int → Option (Bool)
 | 0, _, _, _, _, _, _, _, _, _, _ => none
 | k + 1, x2, x3, x4, x11, x12, x14, x153000, x153001, x154000, x154001 => if 0 ≤ x14 then (if x14 < (x12.length : Int) then (if rdOf false x12 x14 = true then (standstilllaw06_CounterNames.l1 k x2 x3 x4 x11 x12 (wrap64 (x14 + 1)) x153000 x153001 x154000 x154001) else (if x14 < (x11.length : Int) then (standstilllaw06_CounterNames.l2 k x2 x3 x4 (x11.set (x14 : Int).toNat x3) x14 0 x153000 x153001 x154000 x154001 (wrap64 (x153000 + 1)) ([] : List (S33))) else (none))) else (none)) else (none)
def standstilllaw06_CounterNames.l2 : Nat → List Int → Int → Int → List Int → Int → Int → Int → List (S33) → Int → List Int → Int → List (S33) → Option (Bool)
 | 0, _, _, _, _, _, _, _, _, _, _, _, _ => none
 | k + 1, x2, x3, x4, x11, x14, x16, x153000, x153001, x154000, x154001, x178000, x178001 => if x16 < (x153001.length : Int) then (if 0 ≤ x16 then (if ((rd_T33 x153001 x16).f0) = 2 then (if x178001.length < 4398046511104 then (standstilllaw06_CounterNames.l2 k x2 x3 x4 x11 x14 (wrap64 (x16 + 1)) x153000 x153001 x154000 x154001 x178000 (x178001 ++ [(⟨(rd_T33 x153001 x16).f0, (rd_T33 x153001 x16).f1, (rd_T33 x153001 x16).f2, (rd_T33 x153001 x16).f3⟩ : S33)])) else (none)) else (if 0 ≤ ((rd_T33 x153001 x16).f1) then (if ((rd_T33 x153001 x16).f1) < (x2.length : Int) then (if x178001.length < 4398046511104 then (standstilllaw06_CounterNames.l2 k x2 x3 x4 x11 x14 (wrap64 (x16 + 1)) x153000 x153001 x154000 x154001 x178000 (x178001 ++ [(⟨(rd_T33 x153001 x16).f0, rd x2 ((rd_T33 x153001 x16).f1), (rd_T33 x153001 x16).f2, (rd_T33 x153001 x16).f3⟩ : S33)])) else (none)) else (none)) else (none))) else (none)) else ((counter_Run.f k x153000 x153001 x154000 x154001 (wrap64 (x4))).bind fun bt187 => ((counter_Run.f k x178000 x178001 x154000 x11 (wrap64 (x4))).bind fun bt194 => (if bt187.2.2.2 = bt194.2.2.2 then (standstilllaw06_CounterNames.j4 k x2 x3 x14 bt187.2.2.1 bt187.2.2.2 bt194.2.2.1 bt194.2.2.2 (bt187.2.2.2 != 0) x153000 x153001 bt187.1 bt187.2.1 bt194.1 bt194.2.1) else (standstilllaw06_CounterNames.j4 k x2 x3 x14 bt187.2.2.1 bt187.2.2.2 bt194.2.2.1 bt194.2.2.2 true x153000 x153001 bt187.1 bt187.2.1 bt194.1 bt194.2.1))))
def standstilllaw06_CounterNames.j4 : Nat → List Int → Int → Int → Int → Int → Int → Int → Bool → Int → List (S33) → Int → List Int → Int → List Int → Option (Bool)
 | 0, _, _, _, _, _, _, _, _, _, _, _, _, _, _ => none
 | k + 1, x2, x3, x14, x19, x20, x22, x23, x182, x153000, x153001, x194000, x194001, x201000, x201001 => if x182 = true then (if x20 = x23 then ((standstilllaw06_awake.f k).bind fun t201 => (some t201)) else (some false)) else (if x19 = x22 then (if x194000 = x201000 then (if (x194001.length : Int) = x153000 then (if (x201001.length : Int) = (wrap64 (x153000 + 1)) then (if 0 ≤ x14 then (if x14 < (x201001.length : Int) then (standstilllaw06_CounterNames.j5 k x2 ((rd x201001 x14) != x3) x153000 x153001 x194000 x194001 x201000 x201001) else (none)) else (none)) else (standstilllaw06_CounterNames.j5 k x2 true x153000 x153001 x194000 x194001 x201000 x201001)) else (standstilllaw06_CounterNames.j5 k x2 true x153000 x153001 x194000 x194001 x201000 x201001)) else (standstilllaw06_CounterNames.j5 k x2 true x153000 x153001 x194000 x194001 x201000 x201001)) else (standstilllaw06_CounterNames.j5 k x2 true x153000 x153001 x194000 x194001 x201000 x201001))
def standstilllaw06_CounterNames.j5 : Nat → List Int → Bool → Int → List (S33) → Int → List Int → Int → List Int → Option (Bool)
 | 0, _, _, _, _, _, _, _, _ => none
 | k + 1, x2, x224, x153000, x153001, x194000, x194001, x201000, x201001 => if x224 = true then (some false) else (standstilllaw06_CounterNames.l3 k x2 0 x153000 x153001 x194000 x194001 x201000 x201001)
def standstilllaw06_CounterNames.l3 : Nat → List Int → Int → Int → List (S33) → Int → List Int → Int → List Int → Option (Bool)
 | 0, _, _, _, _, _, _, _, _ => none
 | k + 1, x2, x24, x153000, x153001, x194000, x194001, x201000, x201001 => if x24 < x153000 then (if 0 ≤ x24 then (if x24 < (x2.length : Int) then (if 0 ≤ (rd x2 x24) then (if (rd x2 x24) < (x201001.length : Int) then (if x24 < (x194001.length : Int) then (if (rd x201001 (rd x2 x24)) = (rd x194001 x24) then (standstilllaw06_CounterNames.l3 k x2 (wrap64 (x24 + 1)) x153000 x153001 x194000 x194001 x201000 x201001) else (some false)) else (none)) else (none)) else (none)) else (none)) else (none)) else ((standstilllaw06_awake.f k).bind fun t206 => (some t206))
end
def standstilllaw06_CounterNames.f (k : Nat) (a0_0 : Int) (l0_1 : List (S33)) (a1_0 : Int) (l1_1 : List Int) (l2 : List Int) (a3 : Int) (a4 : Int) : Option (Bool) := (standstilllaw06_wide.f a0_0 l0_1 a1_0 l1_1).bind fun t154 => (if t154 = true then (standstilllaw06_CounterNames.j0 k l2 a3 a4 true a0_0 l0_1 a1_0 l1_1) else ((standstillref06_Fits.f k a0_0 l0_1 a1_0 l1_1).bind fun t155 => (if t155 = true then (if a0_0 ≥ 16 then (standstilllaw06_CounterNames.j0 k l2 a3 a4 true a0_0 l0_1 a1_0 l1_1) else (if a3 < 0 then (standstilllaw06_CounterNames.j0 k l2 a3 a4 true a0_0 l0_1 a1_0 l1_1) else (if a3 > 1152921504606846976 then (standstilllaw06_CounterNames.j0 k l2 a3 a4 true a0_0 l0_1 a1_0 l1_1) else (if a4 > 2000 then (standstilllaw06_CounterNames.j0 k l2 a3 a4 true a0_0 l0_1 a1_0 l1_1) else (standstilllaw06_CounterNames.j0 k l2 a3 a4 ((l2.length : Int) != a0_0) a0_0 l0_1 a1_0 l1_1))))) else (standstilllaw06_CounterNames.j0 k l2 a3 a4 true a0_0 l0_1 a1_0 l1_1))))
theorem standstilllaw06_CounterNames.mono_l : ∀ k, (∀ y0 y1 y2 y3 y4 y5 y6 y7, LeO (standstilllaw06_CounterNames.j0 k y0 y1 y2 y3 y4 y5 y6 y7) (standstilllaw06_CounterNames.j0 (k + 1) y0 y1 y2 y3 y4 y5 y6 y7)) ∧ (∀ y0 y1 y2 y3 y4 y5 y6 y7 y8 y9, LeO (standstilllaw06_CounterNames.l0 k y0 y1 y2 y3 y4 y5 y6 y7 y8 y9) (standstilllaw06_CounterNames.l0 (k + 1) y0 y1 y2 y3 y4 y5 y6 y7 y8 y9)) ∧ (∀ y0 y1 y2 y3 y4 y5 y6 y7 y8 y9, LeO (standstilllaw06_CounterNames.l1 k y0 y1 y2 y3 y4 y5 y6 y7 y8 y9) (standstilllaw06_CounterNames.l1 (k + 1) y0 y1 y2 y3 y4 y5 y6 y7 y8 y9)) ∧ (∀ y0 y1 y2 y3 y4 y5 y6 y7 y8 y9 y10 y11, LeO (standstilllaw06_CounterNames.l2 k y0 y1 y2 y3 y4 y5 y6 y7 y8 y9 y10 y11) (standstilllaw06_CounterNames.l2 (k + 1) y0 y1 y2 y3 y4 y5 y6 y7 y8 y9 y10 y11)) ∧ (∀ y0 y1 y2 y3 y4 y5 y6 y7 y8 y9 y10 y11 y12 y13, LeO (standstilllaw06_CounterNames.j4 k y0 y1 y2 y3 y4 y5 y6 y7 y8 y9 y10 y11 y12 y13) (standstilllaw06_CounterNames.j4 (k + 1) y0 y1 y2 y3 y4 y5 y6 y7 y8 y9 y10 y11 y12 y13)) ∧ (∀ y0 y1 y2 y3 y4 y5 y6 y7, LeO (standstilllaw06_CounterNames.j5 k y0 y1 y2 y3 y4 y5 y6 y7) (standstilllaw06_CounterNames.j5 (k + 1) y0 y1 y2 y3 y4 y5 y6 y7)) ∧ (∀ y0 y1 y2 y3 y4 y5 y6 y7, LeO (standstilllaw06_CounterNames.l3 k y0 y1 y2 y3 y4 y5 y6 y7) (standstilllaw06_CounterNames.l3 (k + 1) y0 y1 y2 y3 y4 y5 y6 y7))
 | 0 => ⟨fun _ _ _ _ _ _ _ _ r h => by simp [standstilllaw06_CounterNames.j0] at h, fun _ _ _ _ _ _ _ _ _ _ r h => by simp [standstilllaw06_CounterNames.l0] at h, fun _ _ _ _ _ _ _ _ _ _ r h => by simp [standstilllaw06_CounterNames.l1] at h, fun _ _ _ _ _ _ _ _ _ _ _ _ r h => by simp [standstilllaw06_CounterNames.l2] at h, fun _ _ _ _ _ _ _ _ _ _ _ _ _ _ r h => by simp [standstilllaw06_CounterNames.j4] at h, fun _ _ _ _ _ _ _ _ r h => by simp [standstilllaw06_CounterNames.j5] at h, fun _ _ _ _ _ _ _ _ r h => by simp [standstilllaw06_CounterNames.l3] at h⟩
 | k + 1 => by
  obtain ⟨ih0, ih1, ih2, ih3, ih4, ih5, ih6⟩ := standstilllaw06_CounterNames.mono_l k
  refine ⟨?_, ?_, ?_, ?_, ?_, ?_, ?_⟩
  ·intro y0 y1 y2 y3 y4 y5 y6 y7
   unfold standstilllaw06_CounterNames.j0
   repeat' first
   | (with_reducible exact ih0 _ _ _ _ _ _ _ _)
   | (with_reducible exact ih1 _ _ _ _ _ _ _ _ _ _)
   | (with_reducible exact ih2 _ _ _ _ _ _ _ _ _ _)
   | (with_reducible exact ih3 _ _ _ _ _ _ _ _ _ _ _ _)
   | (with_reducible exact ih4 _ _ _ _ _ _ _ _ _ _ _ _ _ _)
   | (with_reducible exact ih5 _ _ _ _ _ _ _ _)
   | (with_reducible exact ih6 _ _ _ _ _ _ _ _)
   | (with_reducible exact counter_Run.mono _ _ _ _ _ _)
   | (with_reducible exact standstilllaw06_awake.mono _)
   | (with_reducible exact standstillref06_Fits.mono _ _ _ _ _)
   | (with_reducible exact LeO.refl _)
   | (with_reducible exact LeO.none _)
   | (with_reducible refine LeO.ite ?_ ?_)
   | (with_reducible refine LeO.bind ?_ (fun _ => ?_))
   | exact ih0 _ _ _ _ _ _ _ _
   | exact ih1 _ _ _ _ _ _ _ _ _ _
   | exact ih2 _ _ _ _ _ _ _ _ _ _
   | exact ih3 _ _ _ _ _ _ _ _ _ _ _ _
   | exact ih4 _ _ _ _ _ _ _ _ _ _ _ _ _ _
   | exact ih5 _ _ _ _ _ _ _ _
   | exact ih6 _ _ _ _ _ _ _ _
   | exact counter_Run.mono _ _ _ _ _ _
   | exact standstilllaw06_awake.mono _
   | exact standstillref06_Fits.mono _ _ _ _ _
   | exact LeO.none _
   | refine LeO.ite ?_ ?_
   | refine LeO.bind ?_ (fun _ => ?_)
  ·intro y0 y1 y2 y3 y4 y5 y6 y7 y8 y9
   unfold standstilllaw06_CounterNames.l0
   repeat' first
   | (with_reducible exact ih0 _ _ _ _ _ _ _ _)
   | (with_reducible exact ih1 _ _ _ _ _ _ _ _ _ _)
   | (with_reducible exact ih2 _ _ _ _ _ _ _ _ _ _)
   | (with_reducible exact ih3 _ _ _ _ _ _ _ _ _ _ _ _)
   | (with_reducible exact ih4 _ _ _ _ _ _ _ _ _ _ _ _ _ _)
   | (with_reducible exact ih5 _ _ _ _ _ _ _ _)
   | (with_reducible exact ih6 _ _ _ _ _ _ _ _)
   | (with_reducible exact counter_Run.mono _ _ _ _ _ _)
   | (with_reducible exact standstilllaw06_awake.mono _)
   | (with_reducible exact standstillref06_Fits.mono _ _ _ _ _)
   | (with_reducible exact LeO.refl _)
   | (with_reducible exact LeO.none _)
   | (with_reducible refine LeO.ite ?_ ?_)
   | (with_reducible refine LeO.bind ?_ (fun _ => ?_))
   | exact ih0 _ _ _ _ _ _ _ _
   | exact ih1 _ _ _ _ _ _ _ _ _ _
   | exact ih2 _ _ _ _ _ _ _ _ _ _
   | exact ih3 _ _ _ _ _ _ _ _ _ _ _ _
   | exact ih4 _ _ _ _ _ _ _ _ _ _ _ _ _ _
   | exact ih5 _ _ _ _ _ _ _ _
   | exact ih6 _ _ _ _ _ _ _ _
   | exact counter_Run.mono _ _ _ _ _ _
   | exact standstilllaw06_awake.mono _
   | exact standstillref06_Fits.mono _ _ _ _ _
   | exact LeO.none _
   | refine LeO.ite ?_ ?_
   | refine LeO.bind ?_ (fun _ => ?_)
  ·intro y0 y1 y2 y3 y4 y5 y6 y7 y8 y9
   unfold standstilllaw06_CounterNames.l1
   repeat' first
   | (with_reducible exact ih0 _ _ _ _ _ _ _ _)
   | (with_reducible exact ih1 _ _ _ _ _ _ _ _ _ _)
   | (with_reducible exact ih2 _ _ _ _ _ _ _ _ _ _)
   | (with_reducible exact ih3 _ _ _ _ _ _ _ _ _ _ _ _)
   | (with_reducible exact ih4 _ _ _ _ _ _ _ _ _ _ _ _ _ _)
   | (with_reducible exact ih5 _ _ _ _ _ _ _ _)
   | (with_reducible exact ih6 _ _ _ _ _ _ _ _)
   | (with_reducible exact counter_Run.mono _ _ _ _ _ _)
   | (with_reducible exact standstilllaw06_awake.mono _)
   | (with_reducible exact standstillref06_Fits.mono _ _ _ _ _)
   | (with_reducible exact LeO.refl _)
   | (with_reducible exact LeO.none _)
   | (with_reducible refine LeO.ite ?_ ?_)
   | (with_reducible refine LeO.bind ?_ (fun _ => ?_))
   | exact ih0 _ _ _ _ _ _ _ _
   | exact ih1 _ _ _ _ _ _ _ _ _ _
   | exact ih2 _ _ _ _ _ _ _ _ _ _
   | exact ih3 _ _ _ _ _ _ _ _ _ _ _ _
   | exact ih4 _ _ _ _ _ _ _ _ _ _ _ _ _ _
   | exact ih5 _ _ _ _ _ _ _ _
   | exact ih6 _ _ _ _ _ _ _ _
   | exact counter_Run.mono _ _ _ _ _ _
   | exact standstilllaw06_awake.mono _
   | exact standstillref06_Fits.mono _ _ _ _ _
   | exact LeO.none _
   | refine LeO.ite ?_ ?_
   | refine LeO.bind ?_ (fun _ => ?_)
  ·intro y0 y1 y2 y3 y4 y5 y6 y7 y8 y9 y10 y11
   unfold standstilllaw06_CounterNames.l2
   repeat' first
   | (with_reducible exact ih0 _ _ _ _ _ _ _ _)
   | (with_reducible exact ih1 _ _ _ _ _ _ _ _ _ _)
   | (with_reducible exact ih2 _ _ _ _ _ _ _ _ _ _)
   | (with_reducible exact ih3 _ _ _ _ _ _ _ _ _ _ _ _)
   | (with_reducible exact ih4 _ _ _ _ _ _ _ _ _ _ _ _ _ _)
   | (with_reducible exact ih5 _ _ _ _ _ _ _ _)
   | (with_reducible exact ih6 _ _ _ _ _ _ _ _)
   | (with_reducible exact counter_Run.mono _ _ _ _ _ _)
   | (with_reducible exact standstilllaw06_awake.mono _)
   | (with_reducible exact standstillref06_Fits.mono _ _ _ _ _)
   | (with_reducible exact LeO.refl _)
   | (with_reducible exact LeO.none _)
   | (with_reducible refine LeO.ite ?_ ?_)
   | (with_reducible refine LeO.bind ?_ (fun _ => ?_))
   | exact ih0 _ _ _ _ _ _ _ _
   | exact ih1 _ _ _ _ _ _ _ _ _ _
   | exact ih2 _ _ _ _ _ _ _ _ _ _
   | exact ih3 _ _ _ _ _ _ _ _ _ _ _ _
   | exact ih4 _ _ _ _ _ _ _ _ _ _ _ _ _ _
   | exact ih5 _ _ _ _ _ _ _ _
   | exact ih6 _ _ _ _ _ _ _ _
   | exact counter_Run.mono _ _ _ _ _ _
   | exact standstilllaw06_awake.mono _
   | exact standstillref06_Fits.mono _ _ _ _ _
   | exact LeO.none _
   | refine LeO.ite ?_ ?_
   | refine LeO.bind ?_ (fun _ => ?_)
  ·intro y0 y1 y2 y3 y4 y5 y6 y7 y8 y9 y10 y11 y12 y13
   unfold standstilllaw06_CounterNames.j4
   repeat' first
   | (with_reducible exact ih0 _ _ _ _ _ _ _ _)
   | (with_reducible exact ih1 _ _ _ _ _ _ _ _ _ _)
   | (with_reducible exact ih2 _ _ _ _ _ _ _ _ _ _)
   | (with_reducible exact ih3 _ _ _ _ _ _ _ _ _ _ _ _)
   | (with_reducible exact ih4 _ _ _ _ _ _ _ _ _ _ _ _ _ _)
   | (with_reducible exact ih5 _ _ _ _ _ _ _ _)
   | (with_reducible exact ih6 _ _ _ _ _ _ _ _)
   | (with_reducible exact counter_Run.mono _ _ _ _ _ _)
   | (with_reducible exact standstilllaw06_awake.mono _)
   | (with_reducible exact standstillref06_Fits.mono _ _ _ _ _)
   | (with_reducible exact LeO.refl _)
   | (with_reducible exact LeO.none _)
   | (with_reducible refine LeO.ite ?_ ?_)
   | (with_reducible refine LeO.bind ?_ (fun _ => ?_))
   | exact ih0 _ _ _ _ _ _ _ _
   | exact ih1 _ _ _ _ _ _ _ _ _ _
   | exact ih2 _ _ _ _ _ _ _ _ _ _
   | exact ih3 _ _ _ _ _ _ _ _ _ _ _ _
   | exact ih4 _ _ _ _ _ _ _ _ _ _ _ _ _ _
   | exact ih5 _ _ _ _ _ _ _ _
   | exact ih6 _ _ _ _ _ _ _ _
   | exact counter_Run.mono _ _ _ _ _ _
   | exact standstilllaw06_awake.mono _
   | exact standstillref06_Fits.mono _ _ _ _ _
   | exact LeO.none _
   | refine LeO.ite ?_ ?_
   | refine LeO.bind ?_ (fun _ => ?_)
  ·intro y0 y1 y2 y3 y4 y5 y6 y7
   unfold standstilllaw06_CounterNames.j5
   repeat' first
   | (with_reducible exact ih0 _ _ _ _ _ _ _ _)
   | (with_reducible exact ih1 _ _ _ _ _ _ _ _ _ _)
   | (with_reducible exact ih2 _ _ _ _ _ _ _ _ _ _)
   | (with_reducible exact ih3 _ _ _ _ _ _ _ _ _ _ _ _)
   | (with_reducible exact ih4 _ _ _ _ _ _ _ _ _ _ _ _ _ _)
   | (with_reducible exact ih5 _ _ _ _ _ _ _ _)
   | (with_reducible exact ih6 _ _ _ _ _ _ _ _)
   | (with_reducible exact counter_Run.mono _ _ _ _ _ _)
   | (with_reducible exact standstilllaw06_awake.mono _)
   | (with_reducible exact standstillref06_Fits.mono _ _ _ _ _)
   | (with_reducible exact LeO.refl _)
   | (with_reducible exact LeO.none _)
   | (with_reducible refine LeO.ite ?_ ?_)
   | (with_reducible refine LeO.bind ?_ (fun _ => ?_))
   | exact ih0 _ _ _ _ _ _ _ _
   | exact ih1 _ _ _ _ _ _ _ _ _ _
   | exact ih2 _ _ _ _ _ _ _ _ _ _
   | exact ih3 _ _ _ _ _ _ _ _ _ _ _ _
   | exact ih4 _ _ _ _ _ _ _ _ _ _ _ _ _ _
   | exact ih5 _ _ _ _ _ _ _ _
   | exact ih6 _ _ _ _ _ _ _ _
   | exact counter_Run.mono _ _ _ _ _ _
   | exact standstilllaw06_awake.mono _
   | exact standstillref06_Fits.mono _ _ _ _ _
   | exact LeO.none _
   | refine LeO.ite ?_ ?_
   | refine LeO.bind ?_ (fun _ => ?_)
  ·intro y0 y1 y2 y3 y4 y5 y6 y7
   unfold standstilllaw06_CounterNames.l3
   repeat' first
   | (with_reducible exact ih0 _ _ _ _ _ _ _ _)
   | (with_reducible exact ih1 _ _ _ _ _ _ _ _ _ _)
   | (with_reducible exact ih2 _ _ _ _ _ _ _ _ _ _)
   | (with_reducible exact ih3 _ _ _ _ _ _ _ _ _ _ _ _)
   | (with_reducible exact ih4 _ _ _ _ _ _ _ _ _ _ _ _ _ _)
   | (with_reducible exact ih5 _ _ _ _ _ _ _ _)
   | (with_reducible exact ih6 _ _ _ _ _ _ _ _)
   | (with_reducible exact counter_Run.mono _ _ _ _ _ _)
   | (with_reducible exact standstilllaw06_awake.mono _)
   | (with_reducible exact standstillref06_Fits.mono _ _ _ _ _)
   | (with_reducible exact LeO.refl _)
   | (with_reducible exact LeO.none _)
   | (with_reducible refine LeO.ite ?_ ?_)
   | (with_reducible refine LeO.bind ?_ (fun _ => ?_))
   | exact ih0 _ _ _ _ _ _ _ _
   | exact ih1 _ _ _ _ _ _ _ _ _ _
   | exact ih2 _ _ _ _ _ _ _ _ _ _
   | exact ih3 _ _ _ _ _ _ _ _ _ _ _ _
   | exact ih4 _ _ _ _ _ _ _ _ _ _ _ _ _ _
   | exact ih5 _ _ _ _ _ _ _ _
   | exact ih6 _ _ _ _ _ _ _ _
   | exact counter_Run.mono _ _ _ _ _ _
   | exact standstilllaw06_awake.mono _
   | exact standstillref06_Fits.mono _ _ _ _ _
   | exact LeO.none _
   | refine LeO.ite ?_ ?_
   | refine LeO.bind ?_ (fun _ => ?_)
theorem standstilllaw06_CounterNames.mono : ∀ a0 a1 a2 a3 a4 a5 a6 k, LeO (standstilllaw06_CounterNames.f k a0 a1 a2 a3 a4 a5 a6) (standstilllaw06_CounterNames.f (k + 1) a0 a1 a2 a3 a4 a5 a6) := by
 intro a0 a1 a2 a3 a4 a5 a6 k
 obtain ⟨ih0, ih1, ih2, ih3, ih4, ih5, ih6⟩ := standstilllaw06_CounterNames.mono_l k
 unfold standstilllaw06_CounterNames.f
 repeat' first
   | (with_reducible exact ih0 _ _ _ _ _ _ _ _)
   | (with_reducible exact ih1 _ _ _ _ _ _ _ _ _ _)
   | (with_reducible exact ih2 _ _ _ _ _ _ _ _ _ _)
   | (with_reducible exact ih3 _ _ _ _ _ _ _ _ _ _ _ _)
   | (with_reducible exact ih4 _ _ _ _ _ _ _ _ _ _ _ _ _ _)
   | (with_reducible exact ih5 _ _ _ _ _ _ _ _)
   | (with_reducible exact ih6 _ _ _ _ _ _ _ _)
   | (with_reducible exact counter_Run.mono _ _ _ _ _ _)
   | (with_reducible exact standstilllaw06_awake.mono _)
   | (with_reducible exact standstillref06_Fits.mono _ _ _ _ _)
   | (with_reducible exact LeO.refl _)
   | (with_reducible exact LeO.none _)
   | (with_reducible refine LeO.ite ?_ ?_)
   | (with_reducible refine LeO.bind ?_ (fun _ => ?_))
   | exact ih0 _ _ _ _ _ _ _ _
   | exact ih1 _ _ _ _ _ _ _ _ _ _
   | exact ih2 _ _ _ _ _ _ _ _ _ _
   | exact ih3 _ _ _ _ _ _ _ _ _ _ _ _
   | exact ih4 _ _ _ _ _ _ _ _ _ _ _ _ _ _
   | exact ih5 _ _ _ _ _ _ _ _
   | exact ih6 _ _ _ _ _ _ _ _
   | exact counter_Run.mono _ _ _ _ _ _
   | exact standstilllaw06_awake.mono _
   | exact standstillref06_Fits.mono _ _ _ _ _
   | exact LeO.none _
   | refine LeO.ite ?_ ?_
   | refine LeO.bind ?_ (fun _ => ?_)
def standstilllaw06_CounterNames.T8 : Bool × List (List Nat × List Nat) := (true, [([], []), ([], []), ([0, 1], [0, 1]), ([2], [2]), ([3], [3]), ([4], [4]), ([5], [5]), ([5], [5]), ([6, 7, 5], [5, 6, 7]), ([8, 5], [5, 8]), ([5], [5]), ([10, 5], [5, 10]), ([9, 11, 5], [5, 9, 11]), ([5, 12], [5, 12]), ([13, 5], [13]), ([14], [14]), ([14], [14]), ([14], [14]), ([16, 17, 14], [14, 16, 17]), ([18, 14], [14, 18]), ([15, 19, 14], [14, 15, 19]), ([20, 14], [14, 20]), ([14, 21], [14, 21])])
def standstilllaw06_CounterNames.B8 : List Nat := [0, 0, 3, 7, 15, 31, 63, 63, 255, 511, 63, 1087, 4095, 8191, 16383, 32767, 32767, 32767, 229375, 491519, 1048575, 2097151, 4194303]
theorem standstilllaw06_CounterNames.tab8 : rtab .any (opsOf Try.f3 8) = standstilllaw06_CounterNames.T8 := by kernel_rfl
theorem standstilllaw06_CounterNames.bits8 : waitsOk standstilllaw06_CounterNames.T8.2 standstilllaw06_CounterNames.B8 = true := by kernel_rfl
def standstilllaw06_CounterNames.T11 : Bool × List (List Nat × List Nat) := (true, [([], []), ([], []), ([], []), ([1, 2], [1, 2]), ([3], [3]), ([], []), ([5], [5]), ([], []), ([6, 7], [6, 7]), ([8], [8]), ([0, 4, 0, 1, 2, 3, 4, 5, 6, 7, 8, 9], [0, 4]), ([10, 9, 0, 1, 2, 3, 4, 5, 6, 7, 8, 9], [9, 10])])
def standstilllaw06_CounterNames.B11 : List Nat := [0, 0, 0, 6, 14, 0, 32, 0, 224, 480, 1023, 2047]
theorem standstilllaw06_CounterNames.tab11 : rtab .any (opsOf Try.f3 11) = standstilllaw06_CounterNames.T11 := by kernel_rfl
theorem standstilllaw06_CounterNames.bits11 : waitsOk standstilllaw06_CounterNames.T11.2 standstilllaw06_CounterNames.B11 = true := by kernel_rfl
def standstilllaw06_CounterNames.T33 : Bool × List (List Nat × List Nat) := (true, [([], []), ([0], [0]), ([], []), ([], []), ([2, 3], [2, 3]), ([4], [4]), ([1, 5], [1, 5]), ([6], [6]), ([], []), ([8], [8]), ([], []), ([9, 10], [9, 10]), ([11], [11]), ([7, 12], [7, 12])])
def standstilllaw06_CounterNames.B33 : List Nat := [0, 1, 0, 0, 12, 28, 63, 127, 0, 256, 0, 1792, 3840, 8191]
theorem standstilllaw06_CounterNames.tab33 : rtab .any (opsOf Try.f3 33) = standstilllaw06_CounterNames.T33 := by kernel_rfl
theorem standstilllaw06_CounterNames.bits33 : waitsOk standstilllaw06_CounterNames.T33.2 standstilllaw06_CounterNames.B33 = true := by kernel_rfl
set_option maxHeartbeats 8000000 in
set_option maxRecDepth 100000 in
theorem standstilllaw06_CounterNames.calls (k : Nat) (a0_0 : Int) (A0_1 : Option Addr) (c0_1 : Nat) (l0_1 : List (S33)) (a1_0 : Int) (A1_1 : Option Addr) (c1_1 : Nat) (l1_1 : List Int) (A2 : Option Addr) (c2 : Nat) (l2 : List Int) (a3 : Int) (a4 : Int) (r : Bool) (w : World) (hr0_1 : Kd.C k33 w A0_1 l0_1.length l0_1) (hc0_1 : l0_1.length ≤ c0_1) (hr1_1 : Kd.C (Kd.int .i64) w A1_1 l1_1.length l1_1) (hc1_1 : l1_1.length ≤ c1_1) (hr2 : Kd.C (Kd.int .i64) w A2 l2.length l2) (hc2 : l2.length ≤ c2) (h : standstilllaw06_CounterNames.f k a0_0 l0_1 a1_0 l1_1 l2 a3 a4 = some r) :
  Calls Try.prog 3 #[.agg #[.int .i64 a0_0, .slice A0_1 l0_1.length c0_1], .agg #[.int .i64 a1_0, .slice A1_1 l1_1.length c1_1], .slice A2 l2.length c2, .int .i64 a3, .int .u16 a4] w fun e w' => e = .returned (.bool r) ∧ Below w.heap.size w w' := by
 have hu24 := Try.underlying24
 have hu27 := Try.underlying27
 have hu33 := Try.underlying33
 have HR0_1 := Aside0.mk hr0_1
 have HC0_1 := Aside0.mk hc0_1
 clear hr0_1 hc0_1
 have HR1_1 := Aside0.mk hr1_1
 have HC1_1 := Aside0.mk hc1_1
 clear hr1_1 hc1_1
 have HR2 := Aside0.mk hr2
 have HC2 := Aside0.mk hc2
 clear hr2 hc2
 have HB := A_ (Below.refl w.heap.size w)
 have H : ((standstilllaw06_wide.f a0_0 l0_1 a1_0 l1_1).bind fun t154 => (if t154 = true then (standstilllaw06_CounterNames.j0 k l2 a3 a4 true a0_0 l0_1 a1_0 l1_1) else ((standstillref06_Fits.f k a0_0 l0_1 a1_0 l1_1).bind fun t155 => (if t155 = true then (if a0_0 ≥ 16 then (standstilllaw06_CounterNames.j0 k l2 a3 a4 true a0_0 l0_1 a1_0 l1_1) else (if a3 < 0 then (standstilllaw06_CounterNames.j0 k l2 a3 a4 true a0_0 l0_1 a1_0 l1_1) else (if a3 > 1152921504606846976 then (standstilllaw06_CounterNames.j0 k l2 a3 a4 true a0_0 l0_1 a1_0 l1_1) else (if a4 > 2000 then (standstilllaw06_CounterNames.j0 k l2 a3 a4 true a0_0 l0_1 a1_0 l1_1) else (standstilllaw06_CounterNames.j0 k l2 a3 a4 ((l2.length : Int) != a0_0) a0_0 l0_1 a1_0 l1_1))))) else (standstilllaw06_CounterNames.j0 k l2 a3 a4 true a0_0 l0_1 a1_0 l1_1))))) = some r := h
 clear h
 have HC6 := Aside0.mk H
 clear H
 go_enter Try.func3, Try.ntmps3
 go_upto_region 1 with (first | ((with_reducible refine gate_dst (N := 5) rfl ?_); (try (refine gate_guard (by rfl) ?_; dsimp only)); refine box_event ?hg (N := 5) ?hd (cs := #[.int .i64 a0_0, .slice A0_1 l0_1.length c0_1]) (t := 24) ?hr ?_; (case hd => rfl); (case hg => rfl); (case hr => first | (go_simp; done) | (go_simp; rfl)); intro gb152 hg w7 hbox hb; have n0_ := A_ (below_step (bk_ HB.out) hb); have n1_ := A_ (hbox); have n2_ := A_ ((by rw [hg]; exact (below_size (bk_ HB.out)) : w.heap.size ≤ gb152)); have n3_ := A_ ((by rw [hg]; exact (below_size (bk_ HB.out)) : w.heap.size ≤ gb152)); clear HB; have HB := n0_; have BK152 := n1_; have GW152 := n2_; have GE152 := n3_; clear n0_ n1_ n2_ n3_ hb hbox hg) | ((with_reducible refine gate_dst (N := 6) rfl ?_); (try (refine gate_guard (by rfl) ?_; dsimp only)); refine box_event ?hg (N := 6) ?hd (cs := #[.int .i64 a1_0, .slice A1_1 l1_1.length c1_1]) (t := 27) ?hr ?_; (case hd => rfl); (case hg => rfl); (case hr => first | (go_simp; done) | (go_simp; rfl)); intro gb153 hg w8 hbox hb; have n0_ := A_ (blk_below (pk_ BK152.out) hb); have n1_ := A_ (below_step (bk_ HB.out) hb); have n2_ := A_ (hbox); have n3_ := A_ ((by rw [hg]; exact (below_size (bk_ HB.out)) : w.heap.size ≤ gb153)); have n4_ := A_ ((by rw [hg]; exact (below_size (bk_ HB.out)) : w.heap.size ≤ gb153)); have n5_ := A_ ((by rw [hg]; exact Nat.ne_of_lt (blk_lt (pk_ BK152.out)) : gb152 ≠ gb153)); have n6_ := A_ ((by rw [hg]; exact Nat.ne_of_gt (blk_lt (pk_ BK152.out)) : gb153 ≠ gb152)); clear BK152 HB; have BK152 := n0_; have HB := n1_; have BK153 := n2_; have GW153 := n3_; have GE153 := n4_; have NB152_153 := n5_; have NB153_152 := n6_; clear n0_ n1_ n2_ n3_ n4_ n5_ n6_ hb hbox hg))
 (try simp only [Act.put, List.setIfInBounds_toArray, List.set_cons_zero, List.set_cons_succ])
 go_cut [57] (fun v57 wc => ∃ (kq : Nat) (x57_5 : Bool), v57 = .bool x57_5 ∧ Aside0 (standstilllaw06_CounterNames.j0 kq l2 a3 a4 x57_5 a0_0 l0_1 a1_0 l1_1 = some r) ∧ Aside0 (kq ≤ k) ∧ Aside0 (wc.heap[gb152]? = some (.cells #[.int .i64 a0_0, (.slice A0_1 l0_1.length c0_1)] 24 (0, 0))) ∧ Aside0 (wc.heap[gb153]? = some (.cells #[.int .i64 a1_0, (.slice A1_1 l1_1.length c1_1)] 27 (0, 0))) ∧ Aside0 (Below w.heap.size w wc))
 case first => as_aux_lemma =>
  have H := HC6.out
  clear HC6
  replace H := Option.bind_eq_some_iff.mp H
  obtain ⟨t154, A90, H⟩ := H
  replace H : (if t154 = true then (standstilllaw06_CounterNames.j0 k l2 a3 a4 true a0_0 l0_1 a1_0 l1_1) else ((standstillref06_Fits.f k a0_0 l0_1 a1_0 l1_1).bind fun t155 => (if t155 = true then (if a0_0 ≥ 16 then (standstilllaw06_CounterNames.j0 k l2 a3 a4 true a0_0 l0_1 a1_0 l1_1) else (if a3 < 0 then (standstilllaw06_CounterNames.j0 k l2 a3 a4 true a0_0 l0_1 a1_0 l1_1) else (if a3 > 1152921504606846976 then (standstilllaw06_CounterNames.j0 k l2 a3 a4 true a0_0 l0_1 a1_0 l1_1) else (if a4 > 2000 then (standstilllaw06_CounterNames.j0 k l2 a3 a4 true a0_0 l0_1 a1_0 l1_1) else (standstilllaw06_CounterNames.j0 k l2 a3 a4 ((l2.length : Int) != a0_0) a0_0 l0_1 a1_0 l1_1))))) else (standstilllaw06_CounterNames.j0 k l2 a3 a4 true a0_0 l0_1 a1_0 l1_1)))) = some r := H
  have A9 := Aside0.mk A90
  clear A90
  by_cases c10 : t154 = true
  ·subst c10
   have H1 : (standstilllaw06_CounterNames.j0 k l2 a3 a4 true a0_0 l0_1 a1_0 l1_1) = some r := by rw [if_pos rfl] at H; exact H
   clear H
   have H := H1
   clear H1
   have H' := Aside0.mk H
   clear H
   have hnb11 := NB152_153.out
   have hnc11 := NB153_152.out
   have hcz12_0 : w8.cell? ⟨gb152, 0, none⟩ = some (.int .i64 a0_0) := (blk_cell BK152.out 0).trans rfl
   have hcz12_1 : w8.cell? ⟨gb152, 1, none⟩ = some (.slice A0_1 l0_1.length c0_1) := (blk_cell BK152.out 1).trans rfl
   have hfz12_0 := blk_frozen BK152.out 0
   have hfz12_1 := blk_frozen BK152.out 1
   have hcz13_0 : w8.cell? ⟨gb153, 0, none⟩ = some (.int .i64 a1_0) := (blk_cell BK153.out 0).trans rfl
   have hcz13_1 : w8.cell? ⟨gb153, 1, none⟩ = some (.slice A1_1 l1_1.length c1_1) := (blk_cell BK153.out 1).trans rfl
   have hfz13_0 := blk_frozen BK153.out 0
   have hfz13_1 := blk_frozen BK153.out 1
   go_wp2_with (first | ((with_reducible refine gate_callee (f := 8) rfl ?_); refine goesL_ (some 27) rfl rfl Try.func8 (by kernel_rfl) rfl #[.agg #[.int .i64 a0_0, .slice A0_1 l0_1.length c0_1], .agg #[.int .i64 a1_0, .slice A1_1 l1_1.length c1_1]] rfl gl_ ?_; (with_reducible refine (standstilllaw06_wide.calls a0_0 _ _ l0_1 a1_0 _ _ l1_1 true _ ?side1 ?side2 ?side3 ?side4 A9.out).mono ?_); (case side1 => exact ck_ (Kd.C_below HR0_1.out HB.out)); (case side2 => exact HC0_1.out); (case side3 => exact ck_ (Kd.C_below HR1_1.out HB.out)); (case side4 => exact HC1_1.out); rintro e w14 ⟨rfl, hb⟩; refine ⟨_, rfl, ?_⟩; have n0_ := A_ (blk_below (pk_ BK152.out) hb); have n1_ := A_ (blk_below (pk_ BK153.out) hb); have n2_ := A_ (below_step (bk_ HB.out) hb); clear BK152 BK153 HB; have BK152 := n0_; have BK153 := n1_; have HB := n2_; clear n0_ n1_ n2_; (try clear hb); (try clear hb2); (try clear hk); (try clear hi)))
   go_meet
   case rel => exact ⟨_, (true), jr_, H', ⟨by first | omega | exact Nat.le_refl _⟩, ⟨pk_ BK152.out⟩, ⟨pk_ BK153.out⟩, ⟨bk_ HB.out⟩⟩
  ·replace c10 := Bool.eq_false_iff.mpr c10
   subst c10
   have H1 : ((standstillref06_Fits.f k a0_0 l0_1 a1_0 l1_1).bind fun t155 => (if t155 = true then (if a0_0 ≥ 16 then (standstilllaw06_CounterNames.j0 k l2 a3 a4 true a0_0 l0_1 a1_0 l1_1) else (if a3 < 0 then (standstilllaw06_CounterNames.j0 k l2 a3 a4 true a0_0 l0_1 a1_0 l1_1) else (if a3 > 1152921504606846976 then (standstilllaw06_CounterNames.j0 k l2 a3 a4 true a0_0 l0_1 a1_0 l1_1) else (if a4 > 2000 then (standstilllaw06_CounterNames.j0 k l2 a3 a4 true a0_0 l0_1 a1_0 l1_1) else (standstilllaw06_CounterNames.j0 k l2 a3 a4 ((l2.length : Int) != a0_0) a0_0 l0_1 a1_0 l1_1))))) else (standstilllaw06_CounterNames.j0 k l2 a3 a4 true a0_0 l0_1 a1_0 l1_1))) = some r := by rw [if_neg (show ¬ (false = true) by decide)] at H; exact H
   clear H
   have H := H1
   clear H1
   replace H := Option.bind_eq_some_iff.mp H
   obtain ⟨t155, A150, H⟩ := H
   replace H : (if t155 = true then (if a0_0 ≥ 16 then (standstilllaw06_CounterNames.j0 k l2 a3 a4 true a0_0 l0_1 a1_0 l1_1) else (if a3 < 0 then (standstilllaw06_CounterNames.j0 k l2 a3 a4 true a0_0 l0_1 a1_0 l1_1) else (if a3 > 1152921504606846976 then (standstilllaw06_CounterNames.j0 k l2 a3 a4 true a0_0 l0_1 a1_0 l1_1) else (if a4 > 2000 then (standstilllaw06_CounterNames.j0 k l2 a3 a4 true a0_0 l0_1 a1_0 l1_1) else (standstilllaw06_CounterNames.j0 k l2 a3 a4 ((l2.length : Int) != a0_0) a0_0 l0_1 a1_0 l1_1))))) else (standstilllaw06_CounterNames.j0 k l2 a3 a4 true a0_0 l0_1 a1_0 l1_1)) = some r := H
   have A15 := Aside0.mk A150
   clear A150
   by_cases c16 : t155 = true
   ·subst c16
    have H1 : (if a0_0 ≥ 16 then (standstilllaw06_CounterNames.j0 k l2 a3 a4 true a0_0 l0_1 a1_0 l1_1) else (if a3 < 0 then (standstilllaw06_CounterNames.j0 k l2 a3 a4 true a0_0 l0_1 a1_0 l1_1) else (if a3 > 1152921504606846976 then (standstilllaw06_CounterNames.j0 k l2 a3 a4 true a0_0 l0_1 a1_0 l1_1) else (if a4 > 2000 then (standstilllaw06_CounterNames.j0 k l2 a3 a4 true a0_0 l0_1 a1_0 l1_1) else (standstilllaw06_CounterNames.j0 k l2 a3 a4 ((l2.length : Int) != a0_0) a0_0 l0_1 a1_0 l1_1))))) = some r := by rw [if_pos rfl] at H; exact H
    clear H
    have H := H1
    clear H1
    by_cases c17 : a0_0 ≥ 16
    ·rw [if_pos c17] at H
     have c17b0 : decide (16 ≤ a0_0) = true := decide_eq_true c17
     clear c17
     (first | rw [c17b0] | (simp only [i64_w, i32_w]; rw [c17b0]) | skip)
     have H' := Aside0.mk H
     clear H
     have hnb18 := NB152_153.out
     have hnc18 := NB153_152.out
     have hcz19_0 : w8.cell? ⟨gb152, 0, none⟩ = some (.int .i64 a0_0) := (blk_cell BK152.out 0).trans rfl
     have hcz19_1 : w8.cell? ⟨gb152, 1, none⟩ = some (.slice A0_1 l0_1.length c0_1) := (blk_cell BK152.out 1).trans rfl
     have hfz19_0 := blk_frozen BK152.out 0
     have hfz19_1 := blk_frozen BK152.out 1
     have hcz20_0 : w8.cell? ⟨gb153, 0, none⟩ = some (.int .i64 a1_0) := (blk_cell BK153.out 0).trans rfl
     have hcz20_1 : w8.cell? ⟨gb153, 1, none⟩ = some (.slice A1_1 l1_1.length c1_1) := (blk_cell BK153.out 1).trans rfl
     have hfz20_0 := blk_frozen BK153.out 0
     have hfz20_1 := blk_frozen BK153.out 1
     go_wp2_with (first | ((with_reducible refine gate_callee (f := 8) rfl ?_); refine goesL_ (some 27) rfl rfl Try.func8 (by kernel_rfl) rfl #[.agg #[.int .i64 a0_0, .slice A0_1 l0_1.length c0_1], .agg #[.int .i64 a1_0, .slice A1_1 l1_1.length c1_1]] rfl gl_ ?_; (with_reducible refine (standstilllaw06_wide.calls a0_0 _ _ l0_1 a1_0 _ _ l1_1 false _ ?side1 ?side2 ?side3 ?side4 A9.out).mono ?_); (case side1 => exact ck_ (Kd.C_below HR0_1.out HB.out)); (case side2 => exact HC0_1.out); (case side3 => exact ck_ (Kd.C_below HR1_1.out HB.out)); (case side4 => exact HC1_1.out); rintro e w21 ⟨rfl, hb⟩; refine ⟨_, rfl, ?_⟩; have n0_ := A_ (blk_below (pk_ BK152.out) hb); have n1_ := A_ (blk_below (pk_ BK153.out) hb); have n2_ := A_ (below_step (bk_ HB.out) hb); clear BK152 BK153 HB; have BK152 := n0_; have BK153 := n1_; have HB := n2_; clear n0_ n1_ n2_; (try clear hb); (try clear hb2); (try clear hk); (try clear hi); have hcz22_0 : w21.cell? ⟨gb152, 0, none⟩ = some (.int .i64 a0_0) := (blk_cell BK152.out 0).trans rfl; have hcz22_1 : w21.cell? ⟨gb152, 1, none⟩ = some (.slice A0_1 l0_1.length c0_1) := (blk_cell BK152.out 1).trans rfl; have hfz22_0 := blk_frozen BK152.out 0; have hfz22_1 := blk_frozen BK152.out 1; have hcz23_0 : w21.cell? ⟨gb153, 0, none⟩ = some (.int .i64 a1_0) := (blk_cell BK153.out 0).trans rfl; have hcz23_1 : w21.cell? ⟨gb153, 1, none⟩ = some (.slice A1_1 l1_1.length c1_1) := (blk_cell BK153.out 1).trans rfl; have hfz23_0 := blk_frozen BK153.out 0; have hfz23_1 := blk_frozen BK153.out 1) | (go_at_call 9; (with_reducible refine (standstillref06_Fits.calls k a0_0 _ _ l0_1 a1_0 _ _ l1_1 true _ ?side1 ?side2 ?side3 ?side4 A15.out).mono ?_); (case side1 => exact ck_ (Kd.C_below HR0_1.out HB.out)); (case side2 => exact HC0_1.out); (case side3 => exact ck_ (Kd.C_below HR1_1.out HB.out)); (case side4 => exact HC1_1.out); rintro e w24 ⟨rfl, hb⟩; have n0_ := A_ (blk_below (pk_ BK152.out) hb); have n1_ := A_ (blk_below (pk_ BK153.out) hb); have n2_ := A_ (below_step (bk_ HB.out) hb); clear BK152 BK153 HB; have BK152 := n0_; have BK153 := n1_; have HB := n2_; clear n0_ n1_ n2_; (try clear hb); (try clear hb2); (try clear hk); (try clear hi); have hcz25_0 : w24.cell? ⟨gb152, 0, none⟩ = some (.int .i64 a0_0) := (blk_cell BK152.out 0).trans rfl; have hcz25_1 : w24.cell? ⟨gb152, 1, none⟩ = some (.slice A0_1 l0_1.length c0_1) := (blk_cell BK152.out 1).trans rfl; have hfz25_0 := blk_frozen BK152.out 0; have hfz25_1 := blk_frozen BK152.out 1))
     go_meet
     case rel => exact ⟨_, (true), jr_, H', ⟨by first | omega | exact Nat.le_refl _⟩, ⟨pk_ BK152.out⟩, ⟨pk_ BK153.out⟩, ⟨bk_ HB.out⟩⟩
    ·rw [if_neg c17] at H
     have c17b0 : decide (16 ≤ a0_0) = false := decide_eq_false c17
     clear c17
     (first | rw [c17b0] | (simp only [i64_w, i32_w]; rw [c17b0]) | skip)
     by_cases c26 : a3 < 0
     ·rw [if_pos c26] at H
      have c26b0 : decide (a3 < 0) = true := decide_eq_true c26
      clear c26
      have H' := Aside0.mk H
      clear H
      have hnb27 := NB152_153.out
      have hnc27 := NB153_152.out
      have hcz28_0 : w8.cell? ⟨gb152, 0, none⟩ = some (.int .i64 a0_0) := (blk_cell BK152.out 0).trans rfl
      have hcz28_1 : w8.cell? ⟨gb152, 1, none⟩ = some (.slice A0_1 l0_1.length c0_1) := (blk_cell BK152.out 1).trans rfl
      have hfz28_0 := blk_frozen BK152.out 0
      have hfz28_1 := blk_frozen BK152.out 1
      have hcz29_0 : w8.cell? ⟨gb153, 0, none⟩ = some (.int .i64 a1_0) := (blk_cell BK153.out 0).trans rfl
      have hcz29_1 : w8.cell? ⟨gb153, 1, none⟩ = some (.slice A1_1 l1_1.length c1_1) := (blk_cell BK153.out 1).trans rfl
      have hfz29_0 := blk_frozen BK153.out 0
      have hfz29_1 := blk_frozen BK153.out 1
      go_wp2_with (first | ((with_reducible refine gate_callee (f := 8) rfl ?_); refine goesL_ (some 27) rfl rfl Try.func8 (by kernel_rfl) rfl #[.agg #[.int .i64 a0_0, .slice A0_1 l0_1.length c0_1], .agg #[.int .i64 a1_0, .slice A1_1 l1_1.length c1_1]] rfl gl_ ?_; (with_reducible refine (standstilllaw06_wide.calls a0_0 _ _ l0_1 a1_0 _ _ l1_1 false _ ?side1 ?side2 ?side3 ?side4 A9.out).mono ?_); (case side1 => exact ck_ (Kd.C_below HR0_1.out HB.out)); (case side2 => exact HC0_1.out); (case side3 => exact ck_ (Kd.C_below HR1_1.out HB.out)); (case side4 => exact HC1_1.out); rintro e w30 ⟨rfl, hb⟩; refine ⟨_, rfl, ?_⟩; have n0_ := A_ (blk_below (pk_ BK152.out) hb); have n1_ := A_ (blk_below (pk_ BK153.out) hb); have n2_ := A_ (below_step (bk_ HB.out) hb); clear BK152 BK153 HB; have BK152 := n0_; have BK153 := n1_; have HB := n2_; clear n0_ n1_ n2_; (try clear hb); (try clear hb2); (try clear hk); (try clear hi); have hcz31_0 : w30.cell? ⟨gb152, 0, none⟩ = some (.int .i64 a0_0) := (blk_cell BK152.out 0).trans rfl; have hcz31_1 : w30.cell? ⟨gb152, 1, none⟩ = some (.slice A0_1 l0_1.length c0_1) := (blk_cell BK152.out 1).trans rfl; have hfz31_0 := blk_frozen BK152.out 0; have hfz31_1 := blk_frozen BK152.out 1; have hcz32_0 : w30.cell? ⟨gb153, 0, none⟩ = some (.int .i64 a1_0) := (blk_cell BK153.out 0).trans rfl; have hcz32_1 : w30.cell? ⟨gb153, 1, none⟩ = some (.slice A1_1 l1_1.length c1_1) := (blk_cell BK153.out 1).trans rfl; have hfz32_0 := blk_frozen BK153.out 0; have hfz32_1 := blk_frozen BK153.out 1) | (go_at_call 9; (with_reducible refine (standstillref06_Fits.calls k a0_0 _ _ l0_1 a1_0 _ _ l1_1 true _ ?side1 ?side2 ?side3 ?side4 A15.out).mono ?_); (case side1 => exact ck_ (Kd.C_below HR0_1.out HB.out)); (case side2 => exact HC0_1.out); (case side3 => exact ck_ (Kd.C_below HR1_1.out HB.out)); (case side4 => exact HC1_1.out); rintro e w33 ⟨rfl, hb⟩; have n0_ := A_ (blk_below (pk_ BK152.out) hb); have n1_ := A_ (blk_below (pk_ BK153.out) hb); have n2_ := A_ (below_step (bk_ HB.out) hb); clear BK152 BK153 HB; have BK152 := n0_; have BK153 := n1_; have HB := n2_; clear n0_ n1_ n2_; (try clear hb); (try clear hb2); (try clear hk); (try clear hi); have hcz34_0 : w33.cell? ⟨gb152, 0, none⟩ = some (.int .i64 a0_0) := (blk_cell BK152.out 0).trans rfl; have hcz34_1 : w33.cell? ⟨gb152, 1, none⟩ = some (.slice A0_1 l0_1.length c0_1) := (blk_cell BK152.out 1).trans rfl; have hfz34_0 := blk_frozen BK152.out 0; have hfz34_1 := blk_frozen BK152.out 1))
      go_meet
      case rel => exact ⟨_, (true), jr_, H', ⟨by first | omega | exact Nat.le_refl _⟩, ⟨pk_ BK152.out⟩, ⟨pk_ BK153.out⟩, ⟨bk_ HB.out⟩⟩
     ·rw [if_neg c26] at H
      have c26b0 : decide (a3 < 0) = false := decide_eq_false c26
      clear c26
      by_cases c35 : a3 > 1152921504606846976
      ·rw [if_pos c35] at H
       have c35b0 : decide (1152921504606846976 < a3) = true := decide_eq_true c35
       clear c35
       have H' := Aside0.mk H
       clear H
       have hnb36 := NB152_153.out
       have hnc36 := NB153_152.out
       have hcz37_0 : w8.cell? ⟨gb152, 0, none⟩ = some (.int .i64 a0_0) := (blk_cell BK152.out 0).trans rfl
       have hcz37_1 : w8.cell? ⟨gb152, 1, none⟩ = some (.slice A0_1 l0_1.length c0_1) := (blk_cell BK152.out 1).trans rfl
       have hfz37_0 := blk_frozen BK152.out 0
       have hfz37_1 := blk_frozen BK152.out 1
       have hcz38_0 : w8.cell? ⟨gb153, 0, none⟩ = some (.int .i64 a1_0) := (blk_cell BK153.out 0).trans rfl
       have hcz38_1 : w8.cell? ⟨gb153, 1, none⟩ = some (.slice A1_1 l1_1.length c1_1) := (blk_cell BK153.out 1).trans rfl
       have hfz38_0 := blk_frozen BK153.out 0
       have hfz38_1 := blk_frozen BK153.out 1
       go_wp2_with (first | ((with_reducible refine gate_callee (f := 8) rfl ?_); refine goesL_ (some 27) rfl rfl Try.func8 (by kernel_rfl) rfl #[.agg #[.int .i64 a0_0, .slice A0_1 l0_1.length c0_1], .agg #[.int .i64 a1_0, .slice A1_1 l1_1.length c1_1]] rfl gl_ ?_; (with_reducible refine (standstilllaw06_wide.calls a0_0 _ _ l0_1 a1_0 _ _ l1_1 false _ ?side1 ?side2 ?side3 ?side4 A9.out).mono ?_); (case side1 => exact ck_ (Kd.C_below HR0_1.out HB.out)); (case side2 => exact HC0_1.out); (case side3 => exact ck_ (Kd.C_below HR1_1.out HB.out)); (case side4 => exact HC1_1.out); rintro e w39 ⟨rfl, hb⟩; refine ⟨_, rfl, ?_⟩; have n0_ := A_ (blk_below (pk_ BK152.out) hb); have n1_ := A_ (blk_below (pk_ BK153.out) hb); have n2_ := A_ (below_step (bk_ HB.out) hb); clear BK152 BK153 HB; have BK152 := n0_; have BK153 := n1_; have HB := n2_; clear n0_ n1_ n2_; (try clear hb); (try clear hb2); (try clear hk); (try clear hi); have hcz40_0 : w39.cell? ⟨gb152, 0, none⟩ = some (.int .i64 a0_0) := (blk_cell BK152.out 0).trans rfl; have hcz40_1 : w39.cell? ⟨gb152, 1, none⟩ = some (.slice A0_1 l0_1.length c0_1) := (blk_cell BK152.out 1).trans rfl; have hfz40_0 := blk_frozen BK152.out 0; have hfz40_1 := blk_frozen BK152.out 1; have hcz41_0 : w39.cell? ⟨gb153, 0, none⟩ = some (.int .i64 a1_0) := (blk_cell BK153.out 0).trans rfl; have hcz41_1 : w39.cell? ⟨gb153, 1, none⟩ = some (.slice A1_1 l1_1.length c1_1) := (blk_cell BK153.out 1).trans rfl; have hfz41_0 := blk_frozen BK153.out 0; have hfz41_1 := blk_frozen BK153.out 1) | (go_at_call 9; (with_reducible refine (standstillref06_Fits.calls k a0_0 _ _ l0_1 a1_0 _ _ l1_1 true _ ?side1 ?side2 ?side3 ?side4 A15.out).mono ?_); (case side1 => exact ck_ (Kd.C_below HR0_1.out HB.out)); (case side2 => exact HC0_1.out); (case side3 => exact ck_ (Kd.C_below HR1_1.out HB.out)); (case side4 => exact HC1_1.out); rintro e w42 ⟨rfl, hb⟩; have n0_ := A_ (blk_below (pk_ BK152.out) hb); have n1_ := A_ (blk_below (pk_ BK153.out) hb); have n2_ := A_ (below_step (bk_ HB.out) hb); clear BK152 BK153 HB; have BK152 := n0_; have BK153 := n1_; have HB := n2_; clear n0_ n1_ n2_; (try clear hb); (try clear hb2); (try clear hk); (try clear hi); have hcz43_0 : w42.cell? ⟨gb152, 0, none⟩ = some (.int .i64 a0_0) := (blk_cell BK152.out 0).trans rfl; have hcz43_1 : w42.cell? ⟨gb152, 1, none⟩ = some (.slice A0_1 l0_1.length c0_1) := (blk_cell BK152.out 1).trans rfl; have hfz43_0 := blk_frozen BK152.out 0; have hfz43_1 := blk_frozen BK152.out 1))
       go_meet
       case rel => exact ⟨_, (true), jr_, H', ⟨by first | omega | exact Nat.le_refl _⟩, ⟨pk_ BK152.out⟩, ⟨pk_ BK153.out⟩, ⟨bk_ HB.out⟩⟩
      ·rw [if_neg c35] at H
       have c35b0 : decide (1152921504606846976 < a3) = false := decide_eq_false c35
       clear c35
       by_cases c44 : a4 > 2000
       ·rw [if_pos c44] at H
        have c44b0 : decide (2000 < a4) = true := decide_eq_true c44
        clear c44
        have H' := Aside0.mk H
        clear H
        have hnb45 := NB152_153.out
        have hnc45 := NB153_152.out
        have hcz46_0 : w8.cell? ⟨gb152, 0, none⟩ = some (.int .i64 a0_0) := (blk_cell BK152.out 0).trans rfl
        have hcz46_1 : w8.cell? ⟨gb152, 1, none⟩ = some (.slice A0_1 l0_1.length c0_1) := (blk_cell BK152.out 1).trans rfl
        have hfz46_0 := blk_frozen BK152.out 0
        have hfz46_1 := blk_frozen BK152.out 1
        have hcz47_0 : w8.cell? ⟨gb153, 0, none⟩ = some (.int .i64 a1_0) := (blk_cell BK153.out 0).trans rfl
        have hcz47_1 : w8.cell? ⟨gb153, 1, none⟩ = some (.slice A1_1 l1_1.length c1_1) := (blk_cell BK153.out 1).trans rfl
        have hfz47_0 := blk_frozen BK153.out 0
        have hfz47_1 := blk_frozen BK153.out 1
        go_wp2_with (first | ((with_reducible refine gate_callee (f := 8) rfl ?_); refine goesL_ (some 27) rfl rfl Try.func8 (by kernel_rfl) rfl #[.agg #[.int .i64 a0_0, .slice A0_1 l0_1.length c0_1], .agg #[.int .i64 a1_0, .slice A1_1 l1_1.length c1_1]] rfl gl_ ?_; (with_reducible refine (standstilllaw06_wide.calls a0_0 _ _ l0_1 a1_0 _ _ l1_1 false _ ?side1 ?side2 ?side3 ?side4 A9.out).mono ?_); (case side1 => exact ck_ (Kd.C_below HR0_1.out HB.out)); (case side2 => exact HC0_1.out); (case side3 => exact ck_ (Kd.C_below HR1_1.out HB.out)); (case side4 => exact HC1_1.out); rintro e w48 ⟨rfl, hb⟩; refine ⟨_, rfl, ?_⟩; have n0_ := A_ (blk_below (pk_ BK152.out) hb); have n1_ := A_ (blk_below (pk_ BK153.out) hb); have n2_ := A_ (below_step (bk_ HB.out) hb); clear BK152 BK153 HB; have BK152 := n0_; have BK153 := n1_; have HB := n2_; clear n0_ n1_ n2_; (try clear hb); (try clear hb2); (try clear hk); (try clear hi); have hcz49_0 : w48.cell? ⟨gb152, 0, none⟩ = some (.int .i64 a0_0) := (blk_cell BK152.out 0).trans rfl; have hcz49_1 : w48.cell? ⟨gb152, 1, none⟩ = some (.slice A0_1 l0_1.length c0_1) := (blk_cell BK152.out 1).trans rfl; have hfz49_0 := blk_frozen BK152.out 0; have hfz49_1 := blk_frozen BK152.out 1; have hcz50_0 : w48.cell? ⟨gb153, 0, none⟩ = some (.int .i64 a1_0) := (blk_cell BK153.out 0).trans rfl; have hcz50_1 : w48.cell? ⟨gb153, 1, none⟩ = some (.slice A1_1 l1_1.length c1_1) := (blk_cell BK153.out 1).trans rfl; have hfz50_0 := blk_frozen BK153.out 0; have hfz50_1 := blk_frozen BK153.out 1) | (go_at_call 9; (with_reducible refine (standstillref06_Fits.calls k a0_0 _ _ l0_1 a1_0 _ _ l1_1 true _ ?side1 ?side2 ?side3 ?side4 A15.out).mono ?_); (case side1 => exact ck_ (Kd.C_below HR0_1.out HB.out)); (case side2 => exact HC0_1.out); (case side3 => exact ck_ (Kd.C_below HR1_1.out HB.out)); (case side4 => exact HC1_1.out); rintro e w51 ⟨rfl, hb⟩; have n0_ := A_ (blk_below (pk_ BK152.out) hb); have n1_ := A_ (blk_below (pk_ BK153.out) hb); have n2_ := A_ (below_step (bk_ HB.out) hb); clear BK152 BK153 HB; have BK152 := n0_; have BK153 := n1_; have HB := n2_; clear n0_ n1_ n2_; (try clear hb); (try clear hb2); (try clear hk); (try clear hi); have hcz52_0 : w51.cell? ⟨gb152, 0, none⟩ = some (.int .i64 a0_0) := (blk_cell BK152.out 0).trans rfl; have hcz52_1 : w51.cell? ⟨gb152, 1, none⟩ = some (.slice A0_1 l0_1.length c0_1) := (blk_cell BK152.out 1).trans rfl; have hfz52_0 := blk_frozen BK152.out 0; have hfz52_1 := blk_frozen BK152.out 1))
        go_meet
        case rel => exact ⟨_, (true), jr_, H', ⟨by first | omega | exact Nat.le_refl _⟩, ⟨pk_ BK152.out⟩, ⟨pk_ BK153.out⟩, ⟨bk_ HB.out⟩⟩
       ·rw [if_neg c44] at H
        have c44b0 : decide (2000 < a4) = false := decide_eq_false c44
        clear c44
        have H' := Aside0.mk H
        clear H
        have hnb53 := NB152_153.out
        have hnc53 := NB153_152.out
        have hcz54_0 : w8.cell? ⟨gb152, 0, none⟩ = some (.int .i64 a0_0) := (blk_cell BK152.out 0).trans rfl
        have hcz54_1 : w8.cell? ⟨gb152, 1, none⟩ = some (.slice A0_1 l0_1.length c0_1) := (blk_cell BK152.out 1).trans rfl
        have hfz54_0 := blk_frozen BK152.out 0
        have hfz54_1 := blk_frozen BK152.out 1
        have hcz55_0 : w8.cell? ⟨gb153, 0, none⟩ = some (.int .i64 a1_0) := (blk_cell BK153.out 0).trans rfl
        have hcz55_1 : w8.cell? ⟨gb153, 1, none⟩ = some (.slice A1_1 l1_1.length c1_1) := (blk_cell BK153.out 1).trans rfl
        have hfz55_0 := blk_frozen BK153.out 0
        have hfz55_1 := blk_frozen BK153.out 1
        go_wp2_with (first | ((with_reducible refine gate_callee (f := 8) rfl ?_); refine goesL_ (some 27) rfl rfl Try.func8 (by kernel_rfl) rfl #[.agg #[.int .i64 a0_0, .slice A0_1 l0_1.length c0_1], .agg #[.int .i64 a1_0, .slice A1_1 l1_1.length c1_1]] rfl gl_ ?_; (with_reducible refine (standstilllaw06_wide.calls a0_0 _ _ l0_1 a1_0 _ _ l1_1 false _ ?side1 ?side2 ?side3 ?side4 A9.out).mono ?_); (case side1 => exact ck_ (Kd.C_below HR0_1.out HB.out)); (case side2 => exact HC0_1.out); (case side3 => exact ck_ (Kd.C_below HR1_1.out HB.out)); (case side4 => exact HC1_1.out); rintro e w56 ⟨rfl, hb⟩; refine ⟨_, rfl, ?_⟩; have n0_ := A_ (blk_below (pk_ BK152.out) hb); have n1_ := A_ (blk_below (pk_ BK153.out) hb); have n2_ := A_ (below_step (bk_ HB.out) hb); clear BK152 BK153 HB; have BK152 := n0_; have BK153 := n1_; have HB := n2_; clear n0_ n1_ n2_; (try clear hb); (try clear hb2); (try clear hk); (try clear hi); have hcz57_0 : w56.cell? ⟨gb152, 0, none⟩ = some (.int .i64 a0_0) := (blk_cell BK152.out 0).trans rfl; have hcz57_1 : w56.cell? ⟨gb152, 1, none⟩ = some (.slice A0_1 l0_1.length c0_1) := (blk_cell BK152.out 1).trans rfl; have hfz57_0 := blk_frozen BK152.out 0; have hfz57_1 := blk_frozen BK152.out 1; have hcz58_0 : w56.cell? ⟨gb153, 0, none⟩ = some (.int .i64 a1_0) := (blk_cell BK153.out 0).trans rfl; have hcz58_1 : w56.cell? ⟨gb153, 1, none⟩ = some (.slice A1_1 l1_1.length c1_1) := (blk_cell BK153.out 1).trans rfl; have hfz58_0 := blk_frozen BK153.out 0; have hfz58_1 := blk_frozen BK153.out 1) | (go_at_call 9; (with_reducible refine (standstillref06_Fits.calls k a0_0 _ _ l0_1 a1_0 _ _ l1_1 true _ ?side1 ?side2 ?side3 ?side4 A15.out).mono ?_); (case side1 => exact ck_ (Kd.C_below HR0_1.out HB.out)); (case side2 => exact HC0_1.out); (case side3 => exact ck_ (Kd.C_below HR1_1.out HB.out)); (case side4 => exact HC1_1.out); rintro e w59 ⟨rfl, hb⟩; have n0_ := A_ (blk_below (pk_ BK152.out) hb); have n1_ := A_ (blk_below (pk_ BK153.out) hb); have n2_ := A_ (below_step (bk_ HB.out) hb); clear BK152 BK153 HB; have BK152 := n0_; have BK153 := n1_; have HB := n2_; clear n0_ n1_ n2_; (try clear hb); (try clear hb2); (try clear hk); (try clear hi); have hcz60_0 : w59.cell? ⟨gb152, 0, none⟩ = some (.int .i64 a0_0) := (blk_cell BK152.out 0).trans rfl; have hcz60_1 : w59.cell? ⟨gb152, 1, none⟩ = some (.slice A0_1 l0_1.length c0_1) := (blk_cell BK152.out 1).trans rfl; have hfz60_0 := blk_frozen BK152.out 0; have hfz60_1 := blk_frozen BK152.out 1))
        go_meet
        case rel => exact ⟨_, (((l2.length : Int) != a0_0)), jr_, H', ⟨by first | omega | exact Nat.le_refl _⟩, ⟨pk_ BK152.out⟩, ⟨pk_ BK153.out⟩, ⟨bk_ HB.out⟩⟩
   ·replace c16 := Bool.eq_false_iff.mpr c16
    subst c16
    have H1 : (standstilllaw06_CounterNames.j0 k l2 a3 a4 true a0_0 l0_1 a1_0 l1_1) = some r := by rw [if_neg (show ¬ (false = true) by decide)] at H; exact H
    clear H
    have H := H1
    clear H1
    have H' := Aside0.mk H
    clear H
    have hnb61 := NB152_153.out
    have hnc61 := NB153_152.out
    have hcz62_0 : w8.cell? ⟨gb152, 0, none⟩ = some (.int .i64 a0_0) := (blk_cell BK152.out 0).trans rfl
    have hcz62_1 : w8.cell? ⟨gb152, 1, none⟩ = some (.slice A0_1 l0_1.length c0_1) := (blk_cell BK152.out 1).trans rfl
    have hfz62_0 := blk_frozen BK152.out 0
    have hfz62_1 := blk_frozen BK152.out 1
    have hcz63_0 : w8.cell? ⟨gb153, 0, none⟩ = some (.int .i64 a1_0) := (blk_cell BK153.out 0).trans rfl
    have hcz63_1 : w8.cell? ⟨gb153, 1, none⟩ = some (.slice A1_1 l1_1.length c1_1) := (blk_cell BK153.out 1).trans rfl
    have hfz63_0 := blk_frozen BK153.out 0
    have hfz63_1 := blk_frozen BK153.out 1
    go_wp2_with (first | ((with_reducible refine gate_callee (f := 8) rfl ?_); refine goesL_ (some 27) rfl rfl Try.func8 (by kernel_rfl) rfl #[.agg #[.int .i64 a0_0, .slice A0_1 l0_1.length c0_1], .agg #[.int .i64 a1_0, .slice A1_1 l1_1.length c1_1]] rfl gl_ ?_; (with_reducible refine (standstilllaw06_wide.calls a0_0 _ _ l0_1 a1_0 _ _ l1_1 false _ ?side1 ?side2 ?side3 ?side4 A9.out).mono ?_); (case side1 => exact ck_ (Kd.C_below HR0_1.out HB.out)); (case side2 => exact HC0_1.out); (case side3 => exact ck_ (Kd.C_below HR1_1.out HB.out)); (case side4 => exact HC1_1.out); rintro e w64 ⟨rfl, hb⟩; refine ⟨_, rfl, ?_⟩; have n0_ := A_ (blk_below (pk_ BK152.out) hb); have n1_ := A_ (blk_below (pk_ BK153.out) hb); have n2_ := A_ (below_step (bk_ HB.out) hb); clear BK152 BK153 HB; have BK152 := n0_; have BK153 := n1_; have HB := n2_; clear n0_ n1_ n2_; (try clear hb); (try clear hb2); (try clear hk); (try clear hi); have hcz65_0 : w64.cell? ⟨gb152, 0, none⟩ = some (.int .i64 a0_0) := (blk_cell BK152.out 0).trans rfl; have hcz65_1 : w64.cell? ⟨gb152, 1, none⟩ = some (.slice A0_1 l0_1.length c0_1) := (blk_cell BK152.out 1).trans rfl; have hfz65_0 := blk_frozen BK152.out 0; have hfz65_1 := blk_frozen BK152.out 1; have hcz66_0 : w64.cell? ⟨gb153, 0, none⟩ = some (.int .i64 a1_0) := (blk_cell BK153.out 0).trans rfl; have hcz66_1 : w64.cell? ⟨gb153, 1, none⟩ = some (.slice A1_1 l1_1.length c1_1) := (blk_cell BK153.out 1).trans rfl; have hfz66_0 := blk_frozen BK153.out 0; have hfz66_1 := blk_frozen BK153.out 1) | (go_at_call 9; (with_reducible refine (standstillref06_Fits.calls k a0_0 _ _ l0_1 a1_0 _ _ l1_1 false _ ?side1 ?side2 ?side3 ?side4 A15.out).mono ?_); (case side1 => exact ck_ (Kd.C_below HR0_1.out HB.out)); (case side2 => exact HC0_1.out); (case side3 => exact ck_ (Kd.C_below HR1_1.out HB.out)); (case side4 => exact HC1_1.out); rintro e w67 ⟨rfl, hb⟩; have n0_ := A_ (blk_below (pk_ BK152.out) hb); have n1_ := A_ (blk_below (pk_ BK153.out) hb); have n2_ := A_ (below_step (bk_ HB.out) hb); clear BK152 BK153 HB; have BK152 := n0_; have BK153 := n1_; have HB := n2_; clear n0_ n1_ n2_; (try clear hb); (try clear hb2); (try clear hk); (try clear hi)))
    go_meet
    case rel => exact ⟨_, (true), jr_, H', ⟨by first | omega | exact Nat.le_refl _⟩, ⟨pk_ BK152.out⟩, ⟨pk_ BK153.out⟩, ⟨bk_ HB.out⟩⟩
 case rest => as_aux_lemma =>
  clear HC6
  (try clear c2)
  obtain ⟨kq, x57_5, rfl, HA, HJ5, BK152, BK153, HB⟩ := hcut
  cases kq with
  | zero => exact absurd HA.out (by simp [standstilllaw06_CounterNames.j0])
  | succ kj5 =>
   have H := HA.out
   clear HA
   simp only [standstilllaw06_CounterNames.j0] at H
   by_cases c68 : x57_5 = true
   ·subst c68
    have H1 : ((standstilllaw06_awake.f kj5).bind fun t156 => (some t156)) = some r := by rw [if_pos rfl] at H; exact H
    clear H
    have H := H1
    clear H1
    replace H := Option.bind_eq_some_iff.mp H
    obtain ⟨t156, A690, H⟩ := H
    replace H : (some t156) = some r := H
    have A69 := Aside0.mk A690
    clear A690
    obtain rfl := Option.some.inj H
    go_wp2_with (first | ((with_reducible refine gate_callee (f := 10) rfl ?_); refine goesL_ (some 58) rfl rfl Try.func10 (by kernel_rfl) rfl #[] rfl gl_ ?_; (with_reducible refine (standstilllaw06_awake.calls kj5  t156 _ A69.out).mono ?_); rintro e w70 ⟨rfl, hb⟩; refine ⟨_, rfl, ?_⟩; have n0_ := A_ (blk_below (pk_ BK152.out) hb); have n1_ := A_ (blk_below (pk_ BK153.out) hb); have n2_ := A_ (below_step (bk_ HB.out) hb); clear BK152 BK153 HB; have BK152 := n0_; have BK153 := n1_; have HB := n2_; clear n0_ n1_ n2_; (try clear hb); (try clear hb2); (try clear hk); (try clear hi)))
    go_ret
    exact ⟨by first | rfl | (simp [errW_none, errW_some] <;> rfl) | (simp [*, errW_none, errW_some] <;> rfl), bk_ HB.out⟩
   ·replace c68 := Bool.eq_false_iff.mpr c68
    subst c68
    have H1 : (if 0 ≤ (wrap64 (a0_0 + 1)) then (if (wrap64 (a0_0 + 1) : Int).toNat ≤ 35184372088832 then (if (wrap64 (a0_0 + 1) : Int).toNat ≤ 281474976710656 then (standstilllaw06_CounterNames.l0 kj5 l2 a3 a4 (List.replicate (wrap64 (a0_0 + 1) : Int).toNat 0) (List.replicate (wrap64 (a0_0 + 1) : Int).toNat false) 0 a0_0 l0_1 a1_0 l1_1) else (none)) else (none)) else (none)) = some r := by rw [if_neg (show ¬ (false = true) by decide)] at H; exact H
    clear H
    have H := H1
    clear H1
    obtain ⟨ji71, hji71⟩ : ∃ j_ : Int, (wrap64 (a0_0 + 1)) = j_ := ⟨_, rfl⟩
    replace H : (if 0 ≤ (ji71) then (if (ji71 : Int).toNat ≤ 35184372088832 then (if (ji71 : Int).toNat ≤ 281474976710656 then (standstilllaw06_CounterNames.l0 kj5 l2 a3 a4 (List.replicate (ji71 : Int).toNat 0) (List.replicate (ji71 : Int).toNat false) 0 a0_0 l0_1 a1_0 l1_1) else (none)) else (none)) else (none)) = some r := by first | (rw [hji71] at H; exact H) | (simp only [hji71] at H ⊢; exact H)
    have hji71w : (IntKind.i64.wrap (a0_0 + 1)) = ji71 := (i64_w _).trans hji71
    by_cases c72 : 0 ≤ (ji71)
    ·rw [if_pos c72] at H
     have c72b0 := eq_true c72
     have c72b1 : decide (0 ≤ (ji71)) = true := decide_eq_true c72
     clear c72
     by_cases c73 : (ji71 : Int).toNat ≤ 35184372088832
     ·rw [if_pos c73] at H
      have c73b0 := eq_true c73
      have c73b1 : decide ((ji71 : Int).toNat ≤ 35184372088832) = true := decide_eq_true c73
      clear c73
      obtain ⟨y157, hy157⟩ : ∃ y_ : List Int, y_ = (List.replicate (ji71 : Int).toNat 0) := ⟨_, rfl⟩
      replace H : (if (ji71 : Int).toNat ≤ 281474976710656 then (standstilllaw06_CounterNames.l0 kj5 l2 a3 a4 y157 (List.replicate (ji71 : Int).toNat false) 0 a0_0 l0_1 a1_0 l1_1) else (none)) = some r := by first | (rw [hy157]; with_reducible exact H) | (have H2_ := (Option.bind_some _ _).symm.trans H; rw [hy157]; with_reducible exact H2_) | (have H2_ := (Option.bind_some _ _).symm.trans H; with_reducible exact H2_) | with_reducible exact H | (rw [hy157]; exact H) | exact H
      have Ny157 := Aside0.mk hy157
      clear hy157
      by_cases c74 : (ji71 : Int).toNat ≤ 281474976710656
      ·rw [if_pos c74] at H
       have c74b0 := eq_true c74
       have c74b1 : decide ((ji71 : Int).toNat ≤ 281474976710656) = true := decide_eq_true c74
       clear c74
       obtain ⟨y160, hy160⟩ : ∃ y_ : List Bool, y_ = (List.replicate (ji71 : Int).toNat false) := ⟨_, rfl⟩
       replace H : (standstilllaw06_CounterNames.l0 kj5 l2 a3 a4 y157 y160 0 a0_0 l0_1 a1_0 l1_1) = some r := by first | (rw [hy160]; with_reducible exact H) | (have H2_ := (Option.bind_some _ _).symm.trans H; rw [hy160]; with_reducible exact H2_) | (have H2_ := (Option.bind_some _ _).symm.trans H; with_reducible exact H2_) | with_reducible exact H | (rw [hy160]; exact H) | exact H
       have Ny160 := Aside0.mk hy160
       clear hy160
       have H' := Aside0.mk H
       clear H
       have hnb75 := NB152_153.out
       have hnc75 := NB153_152.out
       have hcz76_0 : wc.cell? ⟨gb152, 0, none⟩ = some (.int .i64 a0_0) := (blk_cell BK152.out 0).trans rfl
       have hcz76_1 : wc.cell? ⟨gb152, 1, none⟩ = some (.slice A0_1 l0_1.length c0_1) := (blk_cell BK152.out 1).trans rfl
       have hfz76_0 := blk_frozen BK152.out 0
       have hfz76_1 := blk_frozen BK152.out 1
       go_wp2_with (first | ((with_reducible refine gate_dst (N := 62) rfl ?_); (try (refine gate_guard (by rfl) ?_; dsimp only)); refine Kd.R_make (Kd.int .i64) _ 3 rfl (N := 62) rfl 25 _ _ rfl ji71 rfl rfl Try.underlying25 (.int .i64 0) 8 info3 rfl (by decide) (by omega) 0 (ok := fun _ => True) (okp := fun _ => True) rfl (fun _ hk => hk) trivial (od_) (Nat.le_trans (Nat.mul_le_mul_right _ (od_ : ji71.toNat ≤ 35184372088832)) (by omega)) (Below.refl _ _) (Nat.le_refl _) ?_; intro v158 w77 ho78 hb hg_ hnew_; clear hg_ hnew_; (first | rw [← Ny157.out] at ho78 | (simp only [Int.reduceToNat] at ho78; rw [← Ny157.out] at ho78)); have n0_ := A_ (Kd.R_lower ho78 (below_size (bk_ HB.out))); have n1_ := A_ (blk_below (pk_ BK152.out) hb); have n2_ := A_ (blk_below (pk_ BK153.out) hb); have n3_ := A_ (below_step (bk_ HB.out) hb); clear BK152 BK153 HB; have HO159 := n0_; have BK152 := n1_; have BK153 := n2_; have HB := n3_; clear n0_ n1_ n2_ n3_ hb ho78; have hcz79_0 : w77.cell? ⟨gb152, 0, none⟩ = some (.int .i64 a0_0) := (blk_cell BK152.out 0).trans rfl; have hcz79_1 : w77.cell? ⟨gb152, 1, none⟩ = some (.slice A0_1 l0_1.length c0_1) := (blk_cell BK152.out 1).trans rfl; have hfz79_0 := blk_frozen BK152.out 0; have hfz79_1 := blk_frozen BK152.out 1) | ((with_reducible refine gate_dst (N := 66) rfl ?_); (try (refine gate_guard (by rfl) ?_; dsimp only)); refine Kd.R_make Kd.bool _ 4 rfl (N := 66) rfl 31 _ _ rfl ji71 rfl rfl Try.underlying31 (.bool false) 1 info4 rfl (by decide) (by omega) false (ok := fun _ => True) (okp := fun _ => True) rfl (fun _ hk => hk) trivial (od_) (Nat.le_trans (Nat.mul_le_mul_right _ (od_ : ji71.toNat ≤ 281474976710656)) (by omega)) (Below.refl _ _) (Nat.le_refl _) ?_; intro v161 w80 ho81 hb hg_ hnew_; clear hg_ hnew_; (first | rw [← Ny160.out] at ho81 | (simp only [Int.reduceToNat] at ho81; rw [← Ny160.out] at ho81)); have n0_ := A_ (Kd.R_below (rk_ HO159.out) hb); have n1_ := A_ (Kd.R_lower ho81 (below_size (bk_ HB.out))); have n2_ := A_ (blk_below (pk_ BK152.out) hb); have n3_ := A_ (blk_below (pk_ BK153.out) hb); have n4_ := A_ (below_step (bk_ HB.out) hb); clear HO159 BK152 BK153 HB; have HO159 := n0_; have HO162 := n1_; have BK152 := n2_; have BK153 := n3_; have HB := n4_; clear n0_ n1_ n2_ n3_ n4_ hb ho81))
       have hji71_ := Aside0.mk hji71
       clear hji71w hji71
       go_loopg [13] kj5 (fun kq v13 w' => ∃ (x11_2 : List Int) (x12_2 : List Bool) (x13_2 : Int), v13 = .int .i64 x13_2 ∧ Aside0 (standstilllaw06_CounterNames.l0 kq l2 a3 a4 x11_2 x12_2 x13_2 a0_0 l0_1 a1_0 l1_1 = some r) ∧ Aside0 (kq ≤ kj5) ∧ Aside0 (Kd.R (Kd.int .i64) 3 w' w.heap.size (fun _ => True) v158 x11_2) ∧ Aside0 (Kd.R Kd.bool 4 w' w.heap.size (fun _ => True) v161 x12_2) ∧ Aside0 (w'.heap[gb152]? = some (.cells #[.int .i64 a0_0, (.slice A0_1 l0_1.length c0_1)] 24 (0, 0))) ∧ Aside0 (w'.heap[gb153]? = some (.cells #[.int .i64 a1_0, (.slice A1_1 l1_1.length c1_1)] 27 (0, 0))) ∧ Aside0 (Below w.heap.size w w'))
       case atStart => exact ⟨(y157), (y160), (0), jr_, H', ⟨Nat.le_refl _⟩, ⟨rk_ HO159.out⟩, ⟨rk_ HO162.out⟩, ⟨pk_ BK152.out⟩, ⟨pk_ BK153.out⟩, ⟨bk_ HB.out⟩⟩
       case round => as_aux_lemma =>
        clear H'
        (try clear c2); (try clear c68); (try clear c72); (try clear c72b0); (try clear c72b1); (try clear c73); (try clear c73b0); (try clear c73b1); (try clear c74); (try clear c74b0); (try clear c74b1); (try clear hcz76_0); (try clear hcz76_1); (try clear hcz79_0); (try clear hcz79_1); (try clear hfz76_0); (try clear hfz76_1); (try clear hfz79_0); (try clear hfz79_1)
        obtain ⟨x11_2, x12_2, x13_2, rfl, HA, HK2, HO_11, HO_12, BK152, BK153, HB⟩ := hrel
        cases gk with
        | zero => exact absurd HA.out (by simp [standstilllaw06_CounterNames.l0])
        | succ k2 =>
         have H := HA.out
         clear HA
         simp only [standstilllaw06_CounterNames.l0] at H
         by_cases c82 : x13_2 < a0_0
         ·rw [if_pos c82] at H
          have c82b0 : decide (x13_2 < a0_0) = true := decide_eq_true c82
          clear c82
          by_cases c83 : 0 ≤ x13_2
          ·rw [if_pos c83] at H
           have c83b0 : decide (0 ≤ x13_2) = true := decide_eq_true c83
           clear c83
           by_cases c84 : x13_2 < (l2.length : Int)
           ·rw [if_pos c84] at H
            have c84b0 : decide (x13_2 < (l2.length : Int)) = true := decide_eq_true c84
            clear c84
            by_cases c85 : (rd l2 x13_2) < 0
            ·rw [if_pos c85] at H
             have c85b0 : decide ((rd l2 x13_2) < 0) = true := decide_eq_true c85
             clear c85
             replace H := Option.bind_eq_some_iff.mp H
             obtain ⟨t164, A860, H⟩ := H
             replace H : (some t164) = some r := H
             have A86 := Aside0.mk A860
             clear A860
             obtain rfl := Option.some.inj H
             have hnb87 := NB152_153.out
             have hnc87 := NB153_152.out
             have hcz88_0 : wr.cell? ⟨gb152, 0, none⟩ = some (.int .i64 a0_0) := (blk_cell BK152.out 0).trans rfl
             have hcz88_1 : wr.cell? ⟨gb152, 1, none⟩ = some (.slice A0_1 l0_1.length c0_1) := (blk_cell BK152.out 1).trans rfl
             have hfz88_0 := blk_frozen BK152.out 0
             have hfz88_1 := blk_frozen BK152.out 1
             try go_wp2
             have n0_ := A_ (Kd.R_drew HO_11.out)
             have n1_ := A_ (Kd.R_drew HO_12.out)
             have n2_ := A_ (blk_drew BK152.out)
             have n3_ := A_ (blk_drew BK153.out)
             have n4_ := A_ (below_drew1 HB.out)
             clear HO_11 HO_12 BK152 BK153 HB
             have HO_11 := n0_
             have HO_12 := n1_
             have BK152 := n2_
             have BK153 := n3_
             have HB := n4_
             clear n0_ n1_ n2_ n3_ n4_
             have p163 : 0 ≤ (x13_2 : Int) := od_
             have q163 : x13_2 < (l2.length : Int) := od_
             obtain ⟨ad163, e163, hx163_0⟩ := Kd.at_int HR2.out x13_2 p163 q163
             have hw163_0 := hx163_0
             cases e163
             replace hx163_0 := lf_ HB.out hx163_0
             replace p163 := eq_true p163
             replace q163 := eq_true q163
             refine start_ (n := 23) (S := fun w' => w'.cell? (ad163.add (x13_2).toNat) = some (.int .i64 (rd l2 x13_2))) (ds := []) #[false, false, false, false, false, false, false, false, false, false, false, false, false, false, false, false, false, false, false, false, false, false, false] (by kernel_rfl) rfl rfl (((HB.out.cell (World.block_lt_of_cell? w _ hw163_0)).trans hw163_0)) (fun hHeld => ?_); refine with_tabW standstilllaw06_CounterNames.tab8 standstilllaw06_CounterNames.bits8 (fun HT_ HW_ => ?_)
             generalize wr.drew = w89 at HO_11 HO_12 BK152 BK153 HB hx163_0 hHeld ⊢
             refine pure_ (i := 0) (N := some 73) (v := ?_) (a' := ?_) #[true, false, false, false, false, false, false, false, false, false, false, false, false, false, false, false, false, false, false, false, false, false, false] rfl rfl (any_of HT_.out (by kernel_rfl)) (fun _ _ _ h => h) (Or.inl ⟨by rfl, ?_⟩) ?_ ?_
             rotate_left
             ·intro w'
              go_simp
              with_reducible rfl
             rotate_left
             ·simp only [Act.put, sa_, sz_, ss_, i64_w, i32_w]
              rfl
             refine pure_ (i := 1) (N := some 74) (v := ?_) (a' := ?_) #[true, true, false, false, false, false, false, false, false, false, false, false, false, false, false, false, false, false, false, false, false, false, false] rfl rfl (any_of HT_.out (by kernel_rfl)) (fun _ _ _ h => h) (Or.inl ⟨by rfl, ?_⟩) ?_ ?_
             rotate_left
             ·intro w'
              go_simp
              with_reducible rfl
             rotate_left
             ·simp only [Act.put, sa_, sz_, ss_, i64_w, i32_w]
              rfl
             refine pure_ (i := 2) (N := some 75) (v := ?_) (a' := ?_) #[true, true, true, false, false, false, false, false, false, false, false, false, false, false, false, false, false, false, false, false, false, false, false] rfl rfl (any_of HT_.out (by kernel_rfl)) (fun _ _ _ h => h) (Or.inl ⟨by rfl, ?_⟩) ?_ ?_
             rotate_left
             ·intro w'
              go_simp
              with_reducible rfl
             rotate_left
             ·simp only [Act.put, sa_, sz_, ss_, i64_w, i32_w]
              rfl
             refine take_ (i := 3) (N := some 76) (v := ?_) (a' := ?_) #[true, true, true, true, false, false, false, false, false, false, false, false, false, false, false, false, false, false, false, false, false, false, false] rfl rfl (take_ofW HT_.out HW_.out (by kernel_rfl)) (fun _ _ _ h => h) (Or.inl ⟨by rfl, ?_⟩) hHeld ?_ ?_
             rotate_left
             ·intro w' s0
              go_simp
              with_reducible rfl
             rotate_left
             ·simp only [Act.put, sa_, sz_, ss_, i64_w, i32_w]
              rfl
             refine pure_ (i := 4) (N := some 77) (v := ?_) (a' := ?_) #[true, true, true, true, true, false, false, false, false, false, false, false, false, false, false, false, false, false, false, false, false, false, false] rfl rfl (any_of HT_.out (by kernel_rfl)) (fun _ _ _ h => h) (Or.inl ⟨by rfl, ?_⟩) ?_ ?_
             rotate_left
             ·intro w'
              go_simp
              with_reducible rfl
             rotate_left
             ·simp only [Act.put, sa_, sz_, ss_, i64_w, i32_w]
              rfl
             refine pure_ (i := 5) (N := some 78) (v := ?_) (a' := ?_) #[true, true, true, true, true, true, false, false, false, false, false, false, false, false, false, false, false, false, false, false, false, false, false] rfl rfl (any_of HT_.out (by kernel_rfl)) (fun _ _ _ h => h) (Or.inl ⟨by rfl, ?_⟩) ?_ ?_
             rotate_left
             ·intro w'
              go_simp
              with_reducible rfl
             rotate_left
             ·simp only [Act.put, sa_, sz_, ss_, i64_w, i32_w]
              rfl
             refine pure_ (i := 6) (N := some 79) (v := undef) (a' := ?_) #[true, true, true, true, true, true, true, false, false, false, false, false, false, false, false, false, false, false, false, false, false, false, false] rfl rfl (any_of HT_.out (by kernel_rfl)) (fun _ _ _ h => h) (Or.inr ⟨by rfl, rfl⟩) ?_ ?_
             rotate_left
             ·simp only [Act.put, sa_, sz_, ss_, i64_w, i32_w]
              rfl
             refine pure_ (i := 7) (N := some 80) (v := undef) (a' := ?_) #[true, true, true, true, true, true, true, true, false, false, false, false, false, false, false, false, false, false, false, false, false, false, false] rfl rfl (any_of HT_.out (by kernel_rfl)) (fun _ _ _ h => h) (Or.inr ⟨by rfl, rfl⟩) ?_ ?_
             rotate_left
             ·simp only [Act.put, sa_, sz_, ss_, i64_w, i32_w]
              rfl
             refine pure_ (i := 8) (N := some 81) (v := undef) (a' := ?_) #[true, true, true, true, true, true, true, true, true, false, false, false, false, false, false, false, false, false, false, false, false, false, false] rfl rfl (any_of HT_.out (by kernel_rfl)) (fun _ _ _ h => h) (Or.inr ⟨by rfl, rfl⟩) ?_ ?_
             rotate_left
             ·simp only [Act.put, sa_, sz_, ss_, i64_w, i32_w]
              rfl
             refine pure_ (i := 9) (N := some 82) (v := undef) (a' := ?_) #[true, true, true, true, true, true, true, true, true, true, false, false, false, false, false, false, false, false, false, false, false, false, false] rfl rfl (any_of HT_.out (by kernel_rfl)) (fun _ _ _ h => h) (Or.inr ⟨by rfl, rfl⟩) ?_ ?_
             rotate_left
             ·simp only [Act.put, sa_, sz_, ss_, i64_w, i32_w]
              rfl
             refine pure_ (i := 10) (N := some 83) (v := undef) (a' := ?_) #[true, true, true, true, true, true, true, true, true, true, true, false, false, false, false, false, false, false, false, false, false, false, false] rfl rfl (any_of HT_.out (by kernel_rfl)) (fun _ _ _ h => h) (Or.inr ⟨by rfl, rfl⟩) ?_ ?_
             rotate_left
             ·simp only [Act.put, sa_, sz_, ss_, i64_w, i32_w]
              rfl
             refine pure_ (i := 11) (N := some 84) (v := undef) (a' := ?_) #[true, true, true, true, true, true, true, true, true, true, true, true, false, false, false, false, false, false, false, false, false, false, false] rfl rfl (any_of HT_.out (by kernel_rfl)) (fun _ _ _ h => h) (Or.inr ⟨by rfl, rfl⟩) ?_ ?_
             rotate_left
             ·simp only [Act.put, sa_, sz_, ss_, i64_w, i32_w]
              rfl
             refine pure_ (i := 12) (N := some 85) (v := undef) (a' := ?_) #[true, true, true, true, true, true, true, true, true, true, true, true, true, false, false, false, false, false, false, false, false, false, false] rfl rfl (any_of HT_.out (by kernel_rfl)) (fun _ _ _ h => h) (Or.inr ⟨by rfl, rfl⟩) ?_ ?_
             rotate_left
             ·simp only [Act.put, sa_, sz_, ss_, i64_w, i32_w]
              rfl
             refine pure_ (i := 13) (N := some 86) (v := ?_) (a' := ?_) #[true, true, true, true, true, true, true, true, true, true, true, true, true, true, false, false, false, false, false, false, false, false, false] rfl rfl (any_of HT_.out (by kernel_rfl)) (fun _ _ _ h => h) (Or.inl ⟨by rfl, ?_⟩) ?_ ?_
             rotate_left
             ·intro w'
              go_simp
              with_reducible rfl
             rotate_left
             ·simp only [Act.put, sa_, sz_, ss_, i64_w, i32_w]
              rfl
             refine pure_ (i := 14) (N := some 87) (v := ?_) (a' := ?_) #[true, true, true, true, true, true, true, true, true, true, true, true, true, true, true, false, false, false, false, false, false, false, false] rfl rfl (any_of HT_.out (by kernel_rfl)) (fun _ _ _ h => h) (Or.inl ⟨by rfl, ?_⟩) ?_ ?_
             rotate_left
             ·intro w'
              go_simp
              with_reducible rfl
             rotate_left
             ·simp only [Act.put, sa_, sz_, ss_, i64_w, i32_w]
              rfl
             refine pure_ (i := 15) (N := some 88) (v := undef) (a' := ?_) #[true, true, true, true, true, true, true, true, true, true, true, true, true, true, true, true, false, false, false, false, false, false, false] rfl rfl (any_of HT_.out (by kernel_rfl)) (fun _ _ _ h => h) (Or.inr ⟨by rfl, rfl⟩) ?_ ?_
             rotate_left
             ·simp only [Act.put, sa_, sz_, ss_, i64_w, i32_w]
              rfl
             refine pure_ (i := 16) (N := some 89) (v := undef) (a' := ?_) #[true, true, true, true, true, true, true, true, true, true, true, true, true, true, true, true, true, false, false, false, false, false, false] rfl rfl (any_of HT_.out (by kernel_rfl)) (fun _ _ _ h => h) (Or.inr ⟨by rfl, rfl⟩) ?_ ?_
             rotate_left
             ·simp only [Act.put, sa_, sz_, ss_, i64_w, i32_w]
              rfl
             refine pure_ (i := 17) (N := some 90) (v := undef) (a' := ?_) #[true, true, true, true, true, true, true, true, true, true, true, true, true, true, true, true, true, true, false, false, false, false, false] rfl rfl (any_of HT_.out (by kernel_rfl)) (fun _ _ _ h => h) (Or.inr ⟨by rfl, rfl⟩) ?_ ?_
             rotate_left
             ·simp only [Act.put, sa_, sz_, ss_, i64_w, i32_w]
              rfl
             refine pure_ (i := 18) (N := some 91) (v := undef) (a' := ?_) #[true, true, true, true, true, true, true, true, true, true, true, true, true, true, true, true, true, true, true, false, false, false, false] rfl rfl (any_of HT_.out (by kernel_rfl)) (fun _ _ _ h => h) (Or.inr ⟨by rfl, rfl⟩) ?_ ?_
             rotate_left
             ·simp only [Act.put, sa_, sz_, ss_, i64_w, i32_w]
              rfl
             refine pure_ (i := 19) (N := some 92) (v := undef) (a' := ?_) #[true, true, true, true, true, true, true, true, true, true, true, true, true, true, true, true, true, true, true, true, false, false, false] rfl rfl (any_of HT_.out (by kernel_rfl)) (fun _ _ _ h => h) (Or.inr ⟨by rfl, rfl⟩) ?_ ?_
             rotate_left
             ·simp only [Act.put, sa_, sz_, ss_, i64_w, i32_w]
              rfl
             refine pure_ (i := 20) (N := some 93) (v := undef) (a' := ?_) #[true, true, true, true, true, true, true, true, true, true, true, true, true, true, true, true, true, true, true, true, true, false, false] rfl rfl (any_of HT_.out (by kernel_rfl)) (fun _ _ _ h => h) (Or.inr ⟨by rfl, rfl⟩) ?_ ?_
             rotate_left
             ·simp only [Act.put, sa_, sz_, ss_, i64_w, i32_w]
              rfl
             refine pure_ (i := 21) (N := some 94) (v := undef) (a' := ?_) #[true, true, true, true, true, true, true, true, true, true, true, true, true, true, true, true, true, true, true, true, true, true, false] rfl rfl (any_of HT_.out (by kernel_rfl)) (fun _ _ _ h => h) (Or.inr ⟨by rfl, rfl⟩) ?_ ?_
             rotate_left
             ·simp only [Act.put, sa_, sz_, ss_, i64_w, i32_w]
              rfl
             refine pure_ (i := 22) (N := some 95) (v := ?_) (a' := ?_) #[true, true, true, true, true, true, true, true, true, true, true, true, true, true, true, true, true, true, true, true, true, true, true] rfl rfl (any_of HT_.out (by kernel_rfl)) (fun _ _ _ h => h) (Or.inl ⟨by rfl, ?_⟩) ?_ ?_
             rotate_left
             ·intro w'
              go_simp
              with_reducible rfl
             rotate_left
             ·simp only [Act.put, sa_, sz_, ss_, i64_w, i32_w]
              rfl
             refine done_ (done_of HT_.out (by kernel_rfl)) ?_
             try go_wp2_with (first | ((with_reducible refine gate_callee (f := 10) rfl ?_); refine goesL_ (some 96) rfl rfl Try.func10 (by kernel_rfl) rfl #[] rfl gl_ ?_; (with_reducible refine (standstilllaw06_awake.calls k2  t164 _ A86.out).mono ?_); rintro e w90 ⟨rfl, hb⟩; refine ⟨_, rfl, ?_⟩; have n0_ := A_ (Kd.R_below (rk_ HO_11.out) hb); have n1_ := A_ (Kd.R_below (rk_ HO_12.out) hb); have n2_ := A_ (blk_below (pk_ BK152.out) hb); have n3_ := A_ (blk_below (pk_ BK153.out) hb); have n4_ := A_ (below_step (bk_ HB.out) hb); clear HO_11 HO_12 BK152 BK153 HB; have HO_11 := n0_; have HO_12 := n1_; have BK152 := n2_; have BK153 := n3_; have HB := n4_; clear n0_ n1_ n2_ n3_ n4_; (try clear hb); (try clear hb2); (try clear hk); (try clear hi)))
             go_ret
             exact ⟨by first | rfl | (simp [errW_none, errW_some] <;> rfl) | (simp [*, errW_none, errW_some] <;> rfl), bk_ HB.out⟩
            ·rw [if_neg c85] at H
             have c85b0 : decide ((rd l2 x13_2) < 0) = false := decide_eq_false c85
             clear c85
             by_cases c91 : (rd l2 x13_2) > a0_0
             ·rw [if_pos c91] at H
              have c91b0 : decide (a0_0 < (rd l2 x13_2)) = true := decide_eq_true c91
              clear c91
              replace H := Option.bind_eq_some_iff.mp H
              obtain ⟨t166, A920, H⟩ := H
              replace H : (some t166) = some r := H
              have A92 := Aside0.mk A920
              clear A920
              obtain rfl := Option.some.inj H
              have hnb93 := NB152_153.out
              have hnc93 := NB153_152.out
              have hcz94_0 : wr.cell? ⟨gb152, 0, none⟩ = some (.int .i64 a0_0) := (blk_cell BK152.out 0).trans rfl
              have hcz94_1 : wr.cell? ⟨gb152, 1, none⟩ = some (.slice A0_1 l0_1.length c0_1) := (blk_cell BK152.out 1).trans rfl
              have hfz94_0 := blk_frozen BK152.out 0
              have hfz94_1 := blk_frozen BK152.out 1
              try go_wp2
              have n0_ := A_ (Kd.R_drew HO_11.out)
              have n1_ := A_ (Kd.R_drew HO_12.out)
              have n2_ := A_ (blk_drew BK152.out)
              have n3_ := A_ (blk_drew BK153.out)
              have n4_ := A_ (below_drew1 HB.out)
              clear HO_11 HO_12 BK152 BK153 HB
              have HO_11 := n0_
              have HO_12 := n1_
              have BK152 := n2_
              have BK153 := n3_
              have HB := n4_
              clear n0_ n1_ n2_ n3_ n4_
              have p163 : 0 ≤ (x13_2 : Int) := od_
              have q163 : x13_2 < (l2.length : Int) := od_
              obtain ⟨ad163, e163, hx163_0⟩ := Kd.at_int HR2.out x13_2 p163 q163
              have hw163_0 := hx163_0
              cases e163
              replace hx163_0 := lf_ HB.out hx163_0
              replace p163 := eq_true p163
              replace q163 := eq_true q163
              have p165 : 0 ≤ (x13_2 : Int) := od_
              have q165 : x13_2 < (l2.length : Int) := od_
              obtain ⟨ad165, e165, hx165_0⟩ := Kd.at_int HR2.out x13_2 p165 q165
              have hw165_0 := hx165_0
              obtain rfl : ad163 = ad165 := (by injection e165)
              replace hx165_0 := lf_ HB.out hx165_0
              replace p165 := eq_true p165
              replace q165 := eq_true q165
              refine start_ (n := 23) (S := fun w' => w'.cell? ⟨gb152, 0, none⟩ = some (.int .i64 a0_0) ∧ w'.cell? ⟨gb152, 1, none⟩ = some (.slice A0_1 l0_1.length c0_1) ∧ w'.cell? (ad163.add (x13_2).toNat) = some (.int .i64 (rd l2 x13_2)) ∧ w'.cell? (ad163.add (x13_2).toNat) = some (.int .i64 (rd l2 x13_2))) (ds := []) #[false, false, false, false, false, false, false, false, false, false, false, false, false, false, false, false, false, false, false, false, false, false, false] (by kernel_rfl) rfl rfl ⟨(blk_cell BK152.out 0).trans rfl, (blk_cell BK152.out 1).trans rfl, ((HB.out.cell (World.block_lt_of_cell? w _ hw163_0)).trans hw163_0), ((HB.out.cell (World.block_lt_of_cell? w _ hw165_0)).trans hw165_0)⟩ (fun hHeld => ?_); refine with_tabW standstilllaw06_CounterNames.tab8 standstilllaw06_CounterNames.bits8 (fun HT_ HW_ => ?_)
              generalize wr.drew = w95 at HO_11 HO_12 BK152 BK153 HB hx163_0 hx165_0 hHeld ⊢
              refine pure_ (i := 0) (N := some 73) (v := ?_) (a' := ?_) #[true, false, false, false, false, false, false, false, false, false, false, false, false, false, false, false, false, false, false, false, false, false, false] rfl rfl (any_of HT_.out (by kernel_rfl)) (fun _ _ _ h => h) (Or.inl ⟨by rfl, ?_⟩) ?_ ?_
              rotate_left
              ·intro w'
               go_simp
               with_reducible rfl
              rotate_left
              ·simp only [Act.put, sa_, sz_, ss_, i64_w, i32_w]
               rfl
              refine pure_ (i := 1) (N := some 74) (v := ?_) (a' := ?_) #[true, true, false, false, false, false, false, false, false, false, false, false, false, false, false, false, false, false, false, false, false, false, false] rfl rfl (any_of HT_.out (by kernel_rfl)) (fun _ _ _ h => h) (Or.inl ⟨by rfl, ?_⟩) ?_ ?_
              rotate_left
              ·intro w'
               go_simp
               with_reducible rfl
              rotate_left
              ·simp only [Act.put, sa_, sz_, ss_, i64_w, i32_w]
               rfl
              refine pure_ (i := 2) (N := some 75) (v := ?_) (a' := ?_) #[true, true, true, false, false, false, false, false, false, false, false, false, false, false, false, false, false, false, false, false, false, false, false] rfl rfl (any_of HT_.out (by kernel_rfl)) (fun _ _ _ h => h) (Or.inl ⟨by rfl, ?_⟩) ?_ ?_
              rotate_left
              ·intro w'
               go_simp
               with_reducible rfl
              rotate_left
              ·simp only [Act.put, sa_, sz_, ss_, i64_w, i32_w]
               rfl
              refine take_ (i := 3) (N := some 76) (v := ?_) (a' := ?_) #[true, true, true, true, false, false, false, false, false, false, false, false, false, false, false, false, false, false, false, false, false, false, false] rfl rfl (take_ofW HT_.out HW_.out (by kernel_rfl)) (fun _ _ _ h => h) (Or.inl ⟨by rfl, ?_⟩) hHeld ?_ ?_
              rotate_left
              ·rintro w' ⟨s0, s1, s2, s3⟩
               go_simp
               with_reducible rfl
              rotate_left
              ·simp only [Act.put, sa_, sz_, ss_, i64_w, i32_w]
               rfl
              refine pure_ (i := 4) (N := some 77) (v := ?_) (a' := ?_) #[true, true, true, true, true, false, false, false, false, false, false, false, false, false, false, false, false, false, false, false, false, false, false] rfl rfl (any_of HT_.out (by kernel_rfl)) (fun _ _ _ h => h) (Or.inl ⟨by rfl, ?_⟩) ?_ ?_
              rotate_left
              ·intro w'
               go_simp
               with_reducible rfl
              rotate_left
              ·simp only [Act.put, sa_, sz_, ss_, i64_w, i32_w]
               rfl
              refine pure_ (i := 5) (N := some 78) (v := ?_) (a' := ?_) #[true, true, true, true, true, true, false, false, false, false, false, false, false, false, false, false, false, false, false, false, false, false, false] rfl rfl (any_of HT_.out (by kernel_rfl)) (fun _ _ _ h => h) (Or.inl ⟨by rfl, ?_⟩) ?_ ?_
              rotate_left
              ·intro w'
               go_simp
               with_reducible rfl
              rotate_left
              ·simp only [Act.put, sa_, sz_, ss_, i64_w, i32_w]
               rfl
              refine pure_ (i := 6) (N := some 79) (v := ?_) (a' := ?_) #[true, true, true, true, true, true, true, false, false, false, false, false, false, false, false, false, false, false, false, false, false, false, false] rfl rfl (any_of HT_.out (by kernel_rfl)) (fun _ _ _ h => h) (Or.inl ⟨by rfl, ?_⟩) ?_ ?_
              rotate_left
              ·intro w'
               go_simp
               with_reducible rfl
              rotate_left
              ·simp only [Act.put, sa_, sz_, ss_, i64_w, i32_w]
               rfl
              refine pure_ (i := 7) (N := some 80) (v := ?_) (a' := ?_) #[true, true, true, true, true, true, true, true, false, false, false, false, false, false, false, false, false, false, false, false, false, false, false] rfl rfl (any_of HT_.out (by kernel_rfl)) (fun _ _ _ h => h) (Or.inl ⟨by rfl, ?_⟩) ?_ ?_
              rotate_left
              ·intro w'
               go_simp
               with_reducible rfl
              rotate_left
              ·simp only [Act.put, sa_, sz_, ss_, i64_w, i32_w]
               rfl
              refine pure_ (i := 8) (N := some 81) (v := ?_) (a' := ?_) #[true, true, true, true, true, true, true, true, true, false, false, false, false, false, false, false, false, false, false, false, false, false, false] rfl rfl (any_of HT_.out (by kernel_rfl)) (fun _ _ _ h => h) (Or.inl ⟨by rfl, ?_⟩) ?_ ?_
              rotate_left
              ·intro w'
               go_simp
               with_reducible rfl
              rotate_left
              ·simp only [Act.put, sa_, sz_, ss_, i64_w, i32_w]
               rfl
              refine pure_ (i := 10) (N := some 83) (v := ?_) (a' := ?_) #[true, true, true, true, true, true, true, true, true, false, true, false, false, false, false, false, false, false, false, false, false, false, false] rfl rfl (any_of HT_.out (by kernel_rfl)) (fun _ _ _ h => h) (Or.inl ⟨by rfl, ?_⟩) ?_ ?_
              rotate_left
              ·intro w'
               go_simp
               with_reducible rfl
              rotate_left
              ·simp only [Act.put, sa_, sz_, ss_, i64_w, i32_w]
               rfl
              refine take_ (i := 9) (N := some 82) (v := ?_) (a' := ?_) #[true, true, true, true, true, true, true, true, true, true, true, false, false, false, false, false, false, false, false, false, false, false, false] rfl rfl (take_ofW HT_.out HW_.out (by kernel_rfl)) (fun _ _ _ h => h) (Or.inl ⟨by rfl, ?_⟩) hHeld ?_ ?_
              rotate_left
              ·rintro w' ⟨s0, s1, s2, s3⟩
               go_simp
               with_reducible rfl
              rotate_left
              ·simp only [Act.put, sa_, sz_, ss_, i64_w, i32_w]
               rfl
              refine take_ (i := 11) (N := some 84) (v := ?_) (a' := ?_) #[true, true, true, true, true, true, true, true, true, true, true, true, false, false, false, false, false, false, false, false, false, false, false] rfl rfl (take_ofW HT_.out HW_.out (by kernel_rfl)) (fun _ _ _ h => h) (Or.inl ⟨by rfl, ?_⟩) hHeld ?_ ?_
              rotate_left
              ·rintro w' ⟨s0, s1, s2, s3⟩
               go_simp
               with_reducible rfl
              rotate_left
              ·simp only [Act.put, sa_, sz_, ss_, i64_w, i32_w]
               rfl
              refine pure_ (i := 12) (N := some 85) (v := ?_) (a' := ?_) #[true, true, true, true, true, true, true, true, true, true, true, true, true, false, false, false, false, false, false, false, false, false, false] rfl rfl (any_of HT_.out (by kernel_rfl)) (fun _ _ _ h => h) (Or.inl ⟨by rfl, ?_⟩) ?_ ?_
              rotate_left
              ·intro w'
               go_simp
               with_reducible rfl
              rotate_left
              ·simp only [Act.put, sa_, sz_, ss_, i64_w, i32_w]
               rfl
              refine pure_ (i := 13) (N := some 86) (v := ?_) (a' := ?_) #[true, true, true, true, true, true, true, true, true, true, true, true, true, true, false, false, false, false, false, false, false, false, false] rfl rfl (any_of HT_.out (by kernel_rfl)) (fun _ _ _ h => h) (Or.inl ⟨by rfl, ?_⟩) ?_ ?_
              rotate_left
              ·intro w'
               go_simp
               with_reducible rfl
              rotate_left
              ·simp only [Act.put, sa_, sz_, ss_, i64_w, i32_w]
               rfl
              refine pure_ (i := 14) (N := some 87) (v := ?_) (a' := ?_) #[true, true, true, true, true, true, true, true, true, true, true, true, true, true, true, false, false, false, false, false, false, false, false] rfl rfl (any_of HT_.out (by kernel_rfl)) (fun _ _ _ h => h) (Or.inl ⟨by rfl, ?_⟩) ?_ ?_
              rotate_left
              ·intro w'
               go_simp
               with_reducible rfl
              rotate_left
              ·simp only [Act.put, sa_, sz_, ss_, i64_w, i32_w]
               rfl
              refine pure_ (i := 15) (N := some 88) (v := undef) (a' := ?_) #[true, true, true, true, true, true, true, true, true, true, true, true, true, true, true, true, false, false, false, false, false, false, false] rfl rfl (any_of HT_.out (by kernel_rfl)) (fun _ _ _ h => h) (Or.inr ⟨by rfl, rfl⟩) ?_ ?_
              rotate_left
              ·simp only [Act.put, sa_, sz_, ss_, i64_w, i32_w]
               rfl
              refine pure_ (i := 16) (N := some 89) (v := undef) (a' := ?_) #[true, true, true, true, true, true, true, true, true, true, true, true, true, true, true, true, true, false, false, false, false, false, false] rfl rfl (any_of HT_.out (by kernel_rfl)) (fun _ _ _ h => h) (Or.inr ⟨by rfl, rfl⟩) ?_ ?_
              rotate_left
              ·simp only [Act.put, sa_, sz_, ss_, i64_w, i32_w]
               rfl
              refine pure_ (i := 17) (N := some 90) (v := undef) (a' := ?_) #[true, true, true, true, true, true, true, true, true, true, true, true, true, true, true, true, true, true, false, false, false, false, false] rfl rfl (any_of HT_.out (by kernel_rfl)) (fun _ _ _ h => h) (Or.inr ⟨by rfl, rfl⟩) ?_ ?_
              rotate_left
              ·simp only [Act.put, sa_, sz_, ss_, i64_w, i32_w]
               rfl
              refine pure_ (i := 18) (N := some 91) (v := undef) (a' := ?_) #[true, true, true, true, true, true, true, true, true, true, true, true, true, true, true, true, true, true, true, false, false, false, false] rfl rfl (any_of HT_.out (by kernel_rfl)) (fun _ _ _ h => h) (Or.inr ⟨by rfl, rfl⟩) ?_ ?_
              rotate_left
              ·simp only [Act.put, sa_, sz_, ss_, i64_w, i32_w]
               rfl
              refine pure_ (i := 19) (N := some 92) (v := undef) (a' := ?_) #[true, true, true, true, true, true, true, true, true, true, true, true, true, true, true, true, true, true, true, true, false, false, false] rfl rfl (any_of HT_.out (by kernel_rfl)) (fun _ _ _ h => h) (Or.inr ⟨by rfl, rfl⟩) ?_ ?_
              rotate_left
              ·simp only [Act.put, sa_, sz_, ss_, i64_w, i32_w]
               rfl
              refine pure_ (i := 20) (N := some 93) (v := undef) (a' := ?_) #[true, true, true, true, true, true, true, true, true, true, true, true, true, true, true, true, true, true, true, true, true, false, false] rfl rfl (any_of HT_.out (by kernel_rfl)) (fun _ _ _ h => h) (Or.inr ⟨by rfl, rfl⟩) ?_ ?_
              rotate_left
              ·simp only [Act.put, sa_, sz_, ss_, i64_w, i32_w]
               rfl
              refine pure_ (i := 21) (N := some 94) (v := undef) (a' := ?_) #[true, true, true, true, true, true, true, true, true, true, true, true, true, true, true, true, true, true, true, true, true, true, false] rfl rfl (any_of HT_.out (by kernel_rfl)) (fun _ _ _ h => h) (Or.inr ⟨by rfl, rfl⟩) ?_ ?_
              rotate_left
              ·simp only [Act.put, sa_, sz_, ss_, i64_w, i32_w]
               rfl
              refine pure_ (i := 22) (N := some 95) (v := ?_) (a' := ?_) #[true, true, true, true, true, true, true, true, true, true, true, true, true, true, true, true, true, true, true, true, true, true, true] rfl rfl (any_of HT_.out (by kernel_rfl)) (fun _ _ _ h => h) (Or.inl ⟨by rfl, ?_⟩) ?_ ?_
              rotate_left
              ·intro w'
               go_simp
               with_reducible rfl
              rotate_left
              ·simp only [Act.put, sa_, sz_, ss_, i64_w, i32_w]
               rfl
              refine done_ (done_of HT_.out (by kernel_rfl)) ?_
              try go_wp2_with (first | ((with_reducible refine gate_callee (f := 10) rfl ?_); refine goesL_ (some 96) rfl rfl Try.func10 (by kernel_rfl) rfl #[] rfl gl_ ?_; (with_reducible refine (standstilllaw06_awake.calls k2  t166 _ A92.out).mono ?_); rintro e w96 ⟨rfl, hb⟩; refine ⟨_, rfl, ?_⟩; have n0_ := A_ (Kd.R_below (rk_ HO_11.out) hb); have n1_ := A_ (Kd.R_below (rk_ HO_12.out) hb); have n2_ := A_ (blk_below (pk_ BK152.out) hb); have n3_ := A_ (blk_below (pk_ BK153.out) hb); have n4_ := A_ (below_step (bk_ HB.out) hb); clear HO_11 HO_12 BK152 BK153 HB; have HO_11 := n0_; have HO_12 := n1_; have BK152 := n2_; have BK153 := n3_; have HB := n4_; clear n0_ n1_ n2_ n3_ n4_; (try clear hb); (try clear hb2); (try clear hk); (try clear hi)))
              go_ret
              exact ⟨by first | rfl | (simp [errW_none, errW_some] <;> rfl) | (simp [*, errW_none, errW_some] <;> rfl), bk_ HB.out⟩
             ·rw [if_neg c91] at H
              have c91b0 : decide (a0_0 < (rd l2 x13_2)) = false := decide_eq_false c91
              clear c91
              by_cases c97 : 0 ≤ (rd l2 x13_2)
              ·rw [if_pos c97] at H
               have c97b0 : decide (0 ≤ (rd l2 x13_2)) = true := decide_eq_true c97
               clear c97
               by_cases c98 : (rd l2 x13_2) < (x12_2.length : Int)
               ·rw [if_pos c98] at H
                have c98b0 : decide ((rd l2 x13_2) < (x12_2.length : Int)) = true := decide_eq_true c98
                clear c98
                obtain ⟨bq99, hbq99⟩ : ∃ b_ : Bool, b_ = (rdOf false x12_2 (rd l2 x13_2)) := ⟨_, rfl⟩
                replace H : (if bq99 = true then ((standstilllaw06_awake.f k2).bind fun t169 => (some t169)) else (if x13_2 < (l1_1.length : Int) then (if (rd l2 x13_2) < (x11_2.length : Int) then (standstilllaw06_CounterNames.l0 k2 l2 a3 a4 (x11_2.set ((rd l2 x13_2) : Int).toNat (rd l1_1 x13_2)) (x12_2.set ((rd l2 x13_2) : Int).toNat true) (wrap64 (x13_2 + 1)) a0_0 l0_1 a1_0 l1_1) else (none)) else (none))) = some r := by rw [← hbq99] at H; exact H
                have Nbq99 := Aside0.mk hbq99
                clear hbq99
                by_cases c100 : bq99 = true
                ·subst c100
                 have H1 : ((standstilllaw06_awake.f k2).bind fun t169 => (some t169)) = some r := by rw [if_pos rfl] at H; exact H
                 clear H
                 have H := H1
                 clear H1
                 replace H := Option.bind_eq_some_iff.mp H
                 obtain ⟨t169, A1010, H⟩ := H
                 replace H : (some t169) = some r := H
                 have A101 := Aside0.mk A1010
                 clear A1010
                 obtain rfl := Option.some.inj H
                 have hnb102 := NB152_153.out
                 have hnc102 := NB153_152.out
                 have hcz103_0 : wr.cell? ⟨gb152, 0, none⟩ = some (.int .i64 a0_0) := (blk_cell BK152.out 0).trans rfl
                 have hcz103_1 : wr.cell? ⟨gb152, 1, none⟩ = some (.slice A0_1 l0_1.length c0_1) := (blk_cell BK152.out 1).trans rfl
                 have hfz103_0 := blk_frozen BK152.out 0
                 have hfz103_1 := blk_frozen BK152.out 1
                 try go_wp2
                 have n0_ := A_ (Kd.R_drew HO_11.out)
                 have n1_ := A_ (Kd.R_drew HO_12.out)
                 have n2_ := A_ (blk_drew BK152.out)
                 have n3_ := A_ (blk_drew BK153.out)
                 have n4_ := A_ (below_drew1 HB.out)
                 clear HO_11 HO_12 BK152 BK153 HB
                 have HO_11 := n0_
                 have HO_12 := n1_
                 have BK152 := n2_
                 have BK153 := n3_
                 have HB := n4_
                 clear n0_ n1_ n2_ n3_ n4_
                 have p163 : 0 ≤ (x13_2 : Int) := od_
                 have q163 : x13_2 < (l2.length : Int) := od_
                 obtain ⟨ad163, e163, hx163_0⟩ := Kd.at_int HR2.out x13_2 p163 q163
                 have hw163_0 := hx163_0
                 cases e163
                 replace hx163_0 := lf_ HB.out hx163_0
                 replace p163 := eq_true p163
                 replace q163 := eq_true q163
                 have p165 : 0 ≤ (x13_2 : Int) := od_
                 have q165 : x13_2 < (l2.length : Int) := od_
                 obtain ⟨ad165, e165, hx165_0⟩ := Kd.at_int HR2.out x13_2 p165 q165
                 have hw165_0 := hx165_0
                 obtain rfl : ad163 = ad165 := (by injection e165)
                 replace hx165_0 := lf_ HB.out hx165_0
                 replace p165 := eq_true p165
                 replace q165 := eq_true q165
                 have p167 : 0 ≤ (x13_2 : Int) := od_
                 have q167 : x13_2 < (l2.length : Int) := od_
                 obtain ⟨ad167, e167, hx167_0⟩ := Kd.at_int HR2.out x13_2 p167 q167
                 have hw167_0 := hx167_0
                 obtain rfl : ad163 = ad167 := (by injection e167)
                 replace hx167_0 := lf_ HB.out hx167_0
                 replace p167 := eq_true p167
                 replace q167 := eq_true q167
                 obtain ⟨Ao105, co105, eo105⟩ := Kd.R_slice HO_12.out
                 (first | subst eo105 | (injection eo105 with f1_ f2_ f3_; have f4_ := f1_.symm; have f5_ := f3_.symm; clear f1_ f2_ f3_; subst f4_; subst f5_))
                 have p168 : 0 ≤ ((rd l2 x13_2) : Int) := od_
                 have q168 : (rd l2 x13_2) < (x12_2.length : Int) := od_
                 obtain ⟨ad168, e168, hx168_0⟩ := Kd.at_bool (Kd.R_reads' HO_12.out).2.2 (rd l2 x13_2) p168 q168
                 (try rw [← Nbq99.out] at hx168_0)
                 cases e168
                 replace p168 := eq_true p168
                 replace q168 := eq_true q168
                 refine start_ (n := 23) (S := fun w' => w'.cell? ⟨gb152, 0, none⟩ = some (.int .i64 a0_0) ∧ w'.cell? ⟨gb152, 1, none⟩ = some (.slice A0_1 l0_1.length c0_1) ∧ w'.cell? (ad163.add (x13_2).toNat) = some (.int .i64 (rd l2 x13_2)) ∧ w'.cell? (ad163.add (x13_2).toNat) = some (.int .i64 (rd l2 x13_2)) ∧ w'.cell? (ad163.add (x13_2).toNat) = some (.int .i64 (rd l2 x13_2)) ∧ w'.cell? (ad168.add ((rd l2 x13_2)).toNat) = some (.bool true)) (ds := []) #[false, false, false, false, false, false, false, false, false, false, false, false, false, false, false, false, false, false, false, false, false, false, false] (by kernel_rfl) rfl rfl ⟨(blk_cell BK152.out 0).trans rfl, (blk_cell BK152.out 1).trans rfl, ((HB.out.cell (World.block_lt_of_cell? w _ hw163_0)).trans hw163_0), ((HB.out.cell (World.block_lt_of_cell? w _ hw165_0)).trans hw165_0), ((HB.out.cell (World.block_lt_of_cell? w _ hw167_0)).trans hw167_0), hx168_0⟩ (fun hHeld => ?_); refine with_tabW standstilllaw06_CounterNames.tab8 standstilllaw06_CounterNames.bits8 (fun HT_ HW_ => ?_)
                 generalize wr.drew = w104 at HO_11 HO_12 BK152 BK153 HB hx163_0 hx165_0 hx167_0 hx168_0 hHeld ⊢
                 refine pure_ (i := 0) (N := some 73) (v := ?_) (a' := ?_) #[true, false, false, false, false, false, false, false, false, false, false, false, false, false, false, false, false, false, false, false, false, false, false] rfl rfl (any_of HT_.out (by kernel_rfl)) (fun _ _ _ h => h) (Or.inl ⟨by rfl, ?_⟩) ?_ ?_
                 rotate_left
                 ·intro w'
                  go_simp
                  with_reducible rfl
                 rotate_left
                 ·simp only [Act.put, sa_, sz_, ss_, i64_w, i32_w]
                  rfl
                 refine pure_ (i := 1) (N := some 74) (v := ?_) (a' := ?_) #[true, true, false, false, false, false, false, false, false, false, false, false, false, false, false, false, false, false, false, false, false, false, false] rfl rfl (any_of HT_.out (by kernel_rfl)) (fun _ _ _ h => h) (Or.inl ⟨by rfl, ?_⟩) ?_ ?_
                 rotate_left
                 ·intro w'
                  go_simp
                  with_reducible rfl
                 rotate_left
                 ·simp only [Act.put, sa_, sz_, ss_, i64_w, i32_w]
                  rfl
                 refine pure_ (i := 2) (N := some 75) (v := ?_) (a' := ?_) #[true, true, true, false, false, false, false, false, false, false, false, false, false, false, false, false, false, false, false, false, false, false, false] rfl rfl (any_of HT_.out (by kernel_rfl)) (fun _ _ _ h => h) (Or.inl ⟨by rfl, ?_⟩) ?_ ?_
                 rotate_left
                 ·intro w'
                  go_simp
                  with_reducible rfl
                 rotate_left
                 ·simp only [Act.put, sa_, sz_, ss_, i64_w, i32_w]
                  rfl
                 refine take_ (i := 3) (N := some 76) (v := ?_) (a' := ?_) #[true, true, true, true, false, false, false, false, false, false, false, false, false, false, false, false, false, false, false, false, false, false, false] rfl rfl (take_ofW HT_.out HW_.out (by kernel_rfl)) (fun _ _ _ h => h) (Or.inl ⟨by rfl, ?_⟩) hHeld ?_ ?_
                 rotate_left
                 ·rintro w' ⟨s0, s1, s2, s3, s4, s5⟩
                  go_simp
                  with_reducible rfl
                 rotate_left
                 ·simp only [Act.put, sa_, sz_, ss_, i64_w, i32_w]
                  rfl
                 refine pure_ (i := 4) (N := some 77) (v := ?_) (a' := ?_) #[true, true, true, true, true, false, false, false, false, false, false, false, false, false, false, false, false, false, false, false, false, false, false] rfl rfl (any_of HT_.out (by kernel_rfl)) (fun _ _ _ h => h) (Or.inl ⟨by rfl, ?_⟩) ?_ ?_
                 rotate_left
                 ·intro w'
                  go_simp
                  with_reducible rfl
                 rotate_left
                 ·simp only [Act.put, sa_, sz_, ss_, i64_w, i32_w]
                  rfl
                 refine pure_ (i := 5) (N := some 78) (v := ?_) (a' := ?_) #[true, true, true, true, true, true, false, false, false, false, false, false, false, false, false, false, false, false, false, false, false, false, false] rfl rfl (any_of HT_.out (by kernel_rfl)) (fun _ _ _ h => h) (Or.inl ⟨by rfl, ?_⟩) ?_ ?_
                 rotate_left
                 ·intro w'
                  go_simp
                  with_reducible rfl
                 rotate_left
                 ·simp only [Act.put, sa_, sz_, ss_, i64_w, i32_w]
                  rfl
                 refine pure_ (i := 6) (N := some 79) (v := ?_) (a' := ?_) #[true, true, true, true, true, true, true, false, false, false, false, false, false, false, false, false, false, false, false, false, false, false, false] rfl rfl (any_of HT_.out (by kernel_rfl)) (fun _ _ _ h => h) (Or.inl ⟨by rfl, ?_⟩) ?_ ?_
                 rotate_left
                 ·intro w'
                  go_simp
                  with_reducible rfl
                 rotate_left
                 ·simp only [Act.put, sa_, sz_, ss_, i64_w, i32_w]
                  rfl
                 refine pure_ (i := 7) (N := some 80) (v := ?_) (a' := ?_) #[true, true, true, true, true, true, true, true, false, false, false, false, false, false, false, false, false, false, false, false, false, false, false] rfl rfl (any_of HT_.out (by kernel_rfl)) (fun _ _ _ h => h) (Or.inl ⟨by rfl, ?_⟩) ?_ ?_
                 rotate_left
                 ·intro w'
                  go_simp
                  with_reducible rfl
                 rotate_left
                 ·simp only [Act.put, sa_, sz_, ss_, i64_w, i32_w]
                  rfl
                 refine pure_ (i := 8) (N := some 81) (v := ?_) (a' := ?_) #[true, true, true, true, true, true, true, true, true, false, false, false, false, false, false, false, false, false, false, false, false, false, false] rfl rfl (any_of HT_.out (by kernel_rfl)) (fun _ _ _ h => h) (Or.inl ⟨by rfl, ?_⟩) ?_ ?_
                 rotate_left
                 ·intro w'
                  go_simp
                  with_reducible rfl
                 rotate_left
                 ·simp only [Act.put, sa_, sz_, ss_, i64_w, i32_w]
                  rfl
                 refine pure_ (i := 10) (N := some 83) (v := ?_) (a' := ?_) #[true, true, true, true, true, true, true, true, true, false, true, false, false, false, false, false, false, false, false, false, false, false, false] rfl rfl (any_of HT_.out (by kernel_rfl)) (fun _ _ _ h => h) (Or.inl ⟨by rfl, ?_⟩) ?_ ?_
                 rotate_left
                 ·intro w'
                  go_simp
                  with_reducible rfl
                 rotate_left
                 ·simp only [Act.put, sa_, sz_, ss_, i64_w, i32_w]
                  rfl
                 refine take_ (i := 9) (N := some 82) (v := ?_) (a' := ?_) #[true, true, true, true, true, true, true, true, true, true, true, false, false, false, false, false, false, false, false, false, false, false, false] rfl rfl (take_ofW HT_.out HW_.out (by kernel_rfl)) (fun _ _ _ h => h) (Or.inl ⟨by rfl, ?_⟩) hHeld ?_ ?_
                 rotate_left
                 ·rintro w' ⟨s0, s1, s2, s3, s4, s5⟩
                  go_simp
                  with_reducible rfl
                 rotate_left
                 ·simp only [Act.put, sa_, sz_, ss_, i64_w, i32_w]
                  rfl
                 refine take_ (i := 11) (N := some 84) (v := ?_) (a' := ?_) #[true, true, true, true, true, true, true, true, true, true, true, true, false, false, false, false, false, false, false, false, false, false, false] rfl rfl (take_ofW HT_.out HW_.out (by kernel_rfl)) (fun _ _ _ h => h) (Or.inl ⟨by rfl, ?_⟩) hHeld ?_ ?_
                 rotate_left
                 ·rintro w' ⟨s0, s1, s2, s3, s4, s5⟩
                  go_simp
                  with_reducible rfl
                 rotate_left
                 ·simp only [Act.put, sa_, sz_, ss_, i64_w, i32_w]
                  rfl
                 refine pure_ (i := 12) (N := some 85) (v := ?_) (a' := ?_) #[true, true, true, true, true, true, true, true, true, true, true, true, true, false, false, false, false, false, false, false, false, false, false] rfl rfl (any_of HT_.out (by kernel_rfl)) (fun _ _ _ h => h) (Or.inl ⟨by rfl, ?_⟩) ?_ ?_
                 rotate_left
                 ·intro w'
                  go_simp
                  with_reducible rfl
                 rotate_left
                 ·simp only [Act.put, sa_, sz_, ss_, i64_w, i32_w]
                  rfl
                 refine pure_ (i := 13) (N := some 86) (v := ?_) (a' := ?_) #[true, true, true, true, true, true, true, true, true, true, true, true, true, true, false, false, false, false, false, false, false, false, false] rfl rfl (any_of HT_.out (by kernel_rfl)) (fun _ _ _ h => h) (Or.inl ⟨by rfl, ?_⟩) ?_ ?_
                 rotate_left
                 ·intro w'
                  go_simp
                  with_reducible rfl
                 rotate_left
                 ·simp only [Act.put, sa_, sz_, ss_, i64_w, i32_w]
                  rfl
                 refine pure_ (i := 14) (N := some 87) (v := ?_) (a' := ?_) #[true, true, true, true, true, true, true, true, true, true, true, true, true, true, true, false, false, false, false, false, false, false, false] rfl rfl (any_of HT_.out (by kernel_rfl)) (fun _ _ _ h => h) (Or.inl ⟨by rfl, ?_⟩) ?_ ?_
                 rotate_left
                 ·intro w'
                  go_simp
                  with_reducible rfl
                 rotate_left
                 ·simp only [Act.put, sa_, sz_, ss_, i64_w, i32_w]
                  rfl
                 refine pure_ (i := 15) (N := some 88) (v := ?_) (a' := ?_) #[true, true, true, true, true, true, true, true, true, true, true, true, true, true, true, true, false, false, false, false, false, false, false] rfl rfl (any_of HT_.out (by kernel_rfl)) (fun _ _ _ h => h) (Or.inl ⟨by rfl, ?_⟩) ?_ ?_
                 rotate_left
                 ·intro w'
                  go_simp
                  with_reducible rfl
                 rotate_left
                 ·simp only [Act.put, sa_, sz_, ss_, i64_w, i32_w]
                  rfl
                 refine pure_ (i := 16) (N := some 89) (v := ?_) (a' := ?_) #[true, true, true, true, true, true, true, true, true, true, true, true, true, true, true, true, true, false, false, false, false, false, false] rfl rfl (any_of HT_.out (by kernel_rfl)) (fun _ _ _ h => h) (Or.inl ⟨by rfl, ?_⟩) ?_ ?_
                 rotate_left
                 ·intro w'
                  go_simp
                  with_reducible rfl
                 rotate_left
                 ·simp only [Act.put, sa_, sz_, ss_, i64_w, i32_w]
                  rfl
                 refine pure_ (i := 17) (N := some 90) (v := ?_) (a' := ?_) #[true, true, true, true, true, true, true, true, true, true, true, true, true, true, true, true, true, true, false, false, false, false, false] rfl rfl (any_of HT_.out (by kernel_rfl)) (fun _ _ _ h => h) (Or.inl ⟨by rfl, ?_⟩) ?_ ?_
                 rotate_left
                 ·intro w'
                  go_simp
                  with_reducible rfl
                 rotate_left
                 ·simp only [Act.put, sa_, sz_, ss_, i64_w, i32_w]
                  rfl
                 refine pure_ (i := 18) (N := some 91) (v := ?_) (a' := ?_) #[true, true, true, true, true, true, true, true, true, true, true, true, true, true, true, true, true, true, true, false, false, false, false] rfl rfl (any_of HT_.out (by kernel_rfl)) (fun _ _ _ h => h) (Or.inl ⟨by rfl, ?_⟩) ?_ ?_
                 rotate_left
                 ·intro w'
                  go_simp
                  with_reducible rfl
                 rotate_left
                 ·simp only [Act.put, sa_, sz_, ss_, i64_w, i32_w]
                  rfl
                 refine take_ (i := 19) (N := some 92) (v := ?_) (a' := ?_) #[true, true, true, true, true, true, true, true, true, true, true, true, true, true, true, true, true, true, true, true, false, false, false] rfl rfl (take_ofW HT_.out HW_.out (by kernel_rfl)) (fun _ _ _ h => h) (Or.inl ⟨by rfl, ?_⟩) hHeld ?_ ?_
                 rotate_left
                 ·rintro w' ⟨s0, s1, s2, s3, s4, s5⟩
                  go_simp
                  with_reducible rfl
                 rotate_left
                 ·simp only [Act.put, sa_, sz_, ss_, i64_w, i32_w]
                  rfl
                 refine pure_ (i := 20) (N := some 93) (v := ?_) (a' := ?_) #[true, true, true, true, true, true, true, true, true, true, true, true, true, true, true, true, true, true, true, true, true, false, false] rfl rfl (any_of HT_.out (by kernel_rfl)) (fun _ _ _ h => h) (Or.inl ⟨by rfl, ?_⟩) ?_ ?_
                 rotate_left
                 ·intro w'
                  go_simp
                  with_reducible rfl
                 rotate_left
                 ·simp only [Act.put, sa_, sz_, ss_, i64_w, i32_w]
                  rfl
                 refine take_ (i := 21) (N := some 94) (v := ?_) (a' := ?_) #[true, true, true, true, true, true, true, true, true, true, true, true, true, true, true, true, true, true, true, true, true, true, false] rfl rfl (take_ofW HT_.out HW_.out (by kernel_rfl)) (fun _ _ _ h => h) (Or.inl ⟨by rfl, ?_⟩) hHeld ?_ ?_
                 rotate_left
                 ·rintro w' ⟨s0, s1, s2, s3, s4, s5⟩
                  go_simp
                  with_reducible rfl
                 rotate_left
                 ·simp only [Act.put, sa_, sz_, ss_, i64_w, i32_w]
                  rfl
                 refine pure_ (i := 22) (N := some 95) (v := ?_) (a' := ?_) #[true, true, true, true, true, true, true, true, true, true, true, true, true, true, true, true, true, true, true, true, true, true, true] rfl rfl (any_of HT_.out (by kernel_rfl)) (fun _ _ _ h => h) (Or.inl ⟨by rfl, ?_⟩) ?_ ?_
                 rotate_left
                 ·intro w'
                  go_simp
                  with_reducible rfl
                 rotate_left
                 ·simp only [Act.put, sa_, sz_, ss_, i64_w, i32_w]
                  rfl
                 refine done_ (done_of HT_.out (by kernel_rfl)) ?_
                 try go_wp2_with (first | ((with_reducible refine gate_callee (f := 10) rfl ?_); refine goesL_ (some 96) rfl rfl Try.func10 (by kernel_rfl) rfl #[] rfl gl_ ?_; (with_reducible refine (standstilllaw06_awake.calls k2  t169 _ A101.out).mono ?_); rintro e w106 ⟨rfl, hb⟩; refine ⟨_, rfl, ?_⟩; have n0_ := A_ (Kd.R_below (rk_ HO_11.out) hb); have n1_ := A_ (Kd.R_below (rk_ HO_12.out) hb); have n2_ := A_ (blk_below (pk_ BK152.out) hb); have n3_ := A_ (blk_below (pk_ BK153.out) hb); have n4_ := A_ (below_step (bk_ HB.out) hb); clear HO_11 HO_12 BK152 BK153 HB; have HO_11 := n0_; have HO_12 := n1_; have BK152 := n2_; have BK153 := n3_; have HB := n4_; clear n0_ n1_ n2_ n3_ n4_; (try clear hb); (try clear hb2); (try clear hk); (try clear hi)))
                 go_ret
                 exact ⟨by first | rfl | (simp [errW_none, errW_some] <;> rfl) | (simp [*, errW_none, errW_some] <;> rfl), bk_ HB.out⟩
                ·replace c100 := Bool.eq_false_iff.mpr c100
                 subst c100
                 have H1 : (if x13_2 < (l1_1.length : Int) then (if (rd l2 x13_2) < (x11_2.length : Int) then (standstilllaw06_CounterNames.l0 k2 l2 a3 a4 (x11_2.set ((rd l2 x13_2) : Int).toNat (rd l1_1 x13_2)) (x12_2.set ((rd l2 x13_2) : Int).toNat true) (wrap64 (x13_2 + 1)) a0_0 l0_1 a1_0 l1_1) else (none)) else (none)) = some r := by rw [if_neg (show ¬ (false = true) by decide)] at H; exact H
                 clear H
                 have H := H1
                 clear H1
                 obtain ⟨y171, hy171⟩ : ∃ y_ : List Bool, y_ = (x12_2.set ((rd l2 x13_2) : Int).toNat true) := ⟨_, rfl⟩
                 replace H : (if x13_2 < (l1_1.length : Int) then (if (rd l2 x13_2) < (x11_2.length : Int) then (standstilllaw06_CounterNames.l0 k2 l2 a3 a4 (x11_2.set ((rd l2 x13_2) : Int).toNat (rd l1_1 x13_2)) y171 (wrap64 (x13_2 + 1)) a0_0 l0_1 a1_0 l1_1) else (none)) else (none)) = some r := by first | (rw [hy171]; with_reducible exact H) | (have H2_ := (Option.bind_some _ _).symm.trans H; rw [hy171]; with_reducible exact H2_) | (have H2_ := (Option.bind_some _ _).symm.trans H; with_reducible exact H2_) | with_reducible exact H | (rw [hy171]; exact H) | exact H
                 have Ny171 := Aside0.mk hy171
                 clear hy171
                 by_cases c108 : x13_2 < (l1_1.length : Int)
                 ·rw [if_pos c108] at H
                  have c108b0 : decide (x13_2 < (l1_1.length : Int)) = true := decide_eq_true c108
                  clear c108
                  by_cases c109 : (rd l2 x13_2) < (x11_2.length : Int)
                  ·rw [if_pos c109] at H
                   have c109b0 : decide ((rd l2 x13_2) < (x11_2.length : Int)) = true := decide_eq_true c109
                   clear c109
                   obtain ⟨y174, hy174⟩ : ∃ y_ : List Int, y_ = (x11_2.set ((rd l2 x13_2) : Int).toNat (rd l1_1 x13_2)) := ⟨_, rfl⟩
                   replace H : (standstilllaw06_CounterNames.l0 k2 l2 a3 a4 y174 y171 (wrap64 (x13_2 + 1)) a0_0 l0_1 a1_0 l1_1) = some r := by first | (rw [hy174]; with_reducible exact H) | (have H2_ := (Option.bind_some _ _).symm.trans H; rw [hy174]; with_reducible exact H2_) | (have H2_ := (Option.bind_some _ _).symm.trans H; with_reducible exact H2_) | with_reducible exact H | (rw [hy174]; exact H) | exact H
                   have Ny174 := Aside0.mk hy174
                   clear hy174
                   have H' := Aside0.mk H
                   clear H
                   have hnb111 := NB152_153.out
                   have hnc111 := NB153_152.out
                   have hcz112_0 : wr.cell? ⟨gb152, 0, none⟩ = some (.int .i64 a0_0) := (blk_cell BK152.out 0).trans rfl
                   have hcz112_1 : wr.cell? ⟨gb152, 1, none⟩ = some (.slice A0_1 l0_1.length c0_1) := (blk_cell BK152.out 1).trans rfl
                   have hfz112_0 := blk_frozen BK152.out 0
                   have hfz112_1 := blk_frozen BK152.out 1
                   try go_wp2
                   have n0_ := A_ (Kd.R_drew HO_11.out)
                   have n1_ := A_ (Kd.R_drew HO_12.out)
                   have n2_ := A_ (blk_drew BK152.out)
                   have n3_ := A_ (blk_drew BK153.out)
                   have n4_ := A_ (below_drew1 HB.out)
                   clear HO_11 HO_12 BK152 BK153 HB
                   have HO_11 := n0_
                   have HO_12 := n1_
                   have BK152 := n2_
                   have BK153 := n3_
                   have HB := n4_
                   clear n0_ n1_ n2_ n3_ n4_
                   have p163 : 0 ≤ (x13_2 : Int) := od_
                   have q163 : x13_2 < (l2.length : Int) := od_
                   obtain ⟨ad163, e163, hx163_0⟩ := Kd.at_int HR2.out x13_2 p163 q163
                   have hw163_0 := hx163_0
                   cases e163
                   replace hx163_0 := lf_ HB.out hx163_0
                   replace p163 := eq_true p163
                   replace q163 := eq_true q163
                   have p165 : 0 ≤ (x13_2 : Int) := od_
                   have q165 : x13_2 < (l2.length : Int) := od_
                   obtain ⟨ad165, e165, hx165_0⟩ := Kd.at_int HR2.out x13_2 p165 q165
                   have hw165_0 := hx165_0
                   obtain rfl : ad163 = ad165 := (by injection e165)
                   replace hx165_0 := lf_ HB.out hx165_0
                   replace p165 := eq_true p165
                   replace q165 := eq_true q165
                   have p167 : 0 ≤ (x13_2 : Int) := od_
                   have q167 : x13_2 < (l2.length : Int) := od_
                   obtain ⟨ad167, e167, hx167_0⟩ := Kd.at_int HR2.out x13_2 p167 q167
                   have hw167_0 := hx167_0
                   obtain rfl : ad163 = ad167 := (by injection e167)
                   replace hx167_0 := lf_ HB.out hx167_0
                   replace p167 := eq_true p167
                   replace q167 := eq_true q167
                   obtain ⟨Ao114, co114, eo114⟩ := Kd.R_slice HO_12.out
                   (first | subst eo114 | (injection eo114 with f1_ f2_ f3_; have f4_ := f1_.symm; have f5_ := f3_.symm; clear f1_ f2_ f3_; subst f4_; subst f5_))
                   have p168 : 0 ≤ ((rd l2 x13_2) : Int) := od_
                   have q168 : (rd l2 x13_2) < (x12_2.length : Int) := od_
                   obtain ⟨ad168, e168, hx168_0⟩ := Kd.at_bool (Kd.R_reads' HO_12.out).2.2 (rd l2 x13_2) p168 q168
                   (try rw [← Nbq99.out] at hx168_0)
                   cases e168
                   replace p168 := eq_true p168
                   replace q168 := eq_true q168
                   refine start_ (n := 23) (S := fun w' => w'.cell? ⟨gb152, 0, none⟩ = some (.int .i64 a0_0) ∧ w'.cell? ⟨gb152, 1, none⟩ = some (.slice A0_1 l0_1.length c0_1) ∧ w'.cell? (ad163.add (x13_2).toNat) = some (.int .i64 (rd l2 x13_2)) ∧ w'.cell? (ad163.add (x13_2).toNat) = some (.int .i64 (rd l2 x13_2)) ∧ w'.cell? (ad163.add (x13_2).toNat) = some (.int .i64 (rd l2 x13_2)) ∧ w'.cell? (ad168.add ((rd l2 x13_2)).toNat) = some (.bool false)) (ds := []) #[false, false, false, false, false, false, false, false, false, false, false, false, false, false, false, false, false, false, false, false, false, false, false] (by kernel_rfl) rfl rfl ⟨(blk_cell BK152.out 0).trans rfl, (blk_cell BK152.out 1).trans rfl, ((HB.out.cell (World.block_lt_of_cell? w _ hw163_0)).trans hw163_0), ((HB.out.cell (World.block_lt_of_cell? w _ hw165_0)).trans hw165_0), ((HB.out.cell (World.block_lt_of_cell? w _ hw167_0)).trans hw167_0), hx168_0⟩ (fun hHeld => ?_); refine with_tabW standstilllaw06_CounterNames.tab8 standstilllaw06_CounterNames.bits8 (fun HT_ HW_ => ?_)
                   generalize wr.drew = w113 at HO_11 HO_12 BK152 BK153 HB hx163_0 hx165_0 hx167_0 hx168_0 hHeld ⊢
                   refine pure_ (i := 0) (N := some 73) (v := ?_) (a' := ?_) #[true, false, false, false, false, false, false, false, false, false, false, false, false, false, false, false, false, false, false, false, false, false, false] rfl rfl (any_of HT_.out (by kernel_rfl)) (fun _ _ _ h => h) (Or.inl ⟨by rfl, ?_⟩) ?_ ?_
                   rotate_left
                   ·intro w'
                    go_simp
                    with_reducible rfl
                   rotate_left
                   ·simp only [Act.put, sa_, sz_, ss_, i64_w, i32_w]
                    rfl
                   refine pure_ (i := 1) (N := some 74) (v := ?_) (a' := ?_) #[true, true, false, false, false, false, false, false, false, false, false, false, false, false, false, false, false, false, false, false, false, false, false] rfl rfl (any_of HT_.out (by kernel_rfl)) (fun _ _ _ h => h) (Or.inl ⟨by rfl, ?_⟩) ?_ ?_
                   rotate_left
                   ·intro w'
                    go_simp
                    with_reducible rfl
                   rotate_left
                   ·simp only [Act.put, sa_, sz_, ss_, i64_w, i32_w]
                    rfl
                   refine pure_ (i := 2) (N := some 75) (v := ?_) (a' := ?_) #[true, true, true, false, false, false, false, false, false, false, false, false, false, false, false, false, false, false, false, false, false, false, false] rfl rfl (any_of HT_.out (by kernel_rfl)) (fun _ _ _ h => h) (Or.inl ⟨by rfl, ?_⟩) ?_ ?_
                   rotate_left
                   ·intro w'
                    go_simp
                    with_reducible rfl
                   rotate_left
                   ·simp only [Act.put, sa_, sz_, ss_, i64_w, i32_w]
                    rfl
                   refine take_ (i := 3) (N := some 76) (v := ?_) (a' := ?_) #[true, true, true, true, false, false, false, false, false, false, false, false, false, false, false, false, false, false, false, false, false, false, false] rfl rfl (take_ofW HT_.out HW_.out (by kernel_rfl)) (fun _ _ _ h => h) (Or.inl ⟨by rfl, ?_⟩) hHeld ?_ ?_
                   rotate_left
                   ·rintro w' ⟨s0, s1, s2, s3, s4, s5⟩
                    go_simp
                    with_reducible rfl
                   rotate_left
                   ·simp only [Act.put, sa_, sz_, ss_, i64_w, i32_w]
                    rfl
                   refine pure_ (i := 4) (N := some 77) (v := ?_) (a' := ?_) #[true, true, true, true, true, false, false, false, false, false, false, false, false, false, false, false, false, false, false, false, false, false, false] rfl rfl (any_of HT_.out (by kernel_rfl)) (fun _ _ _ h => h) (Or.inl ⟨by rfl, ?_⟩) ?_ ?_
                   rotate_left
                   ·intro w'
                    go_simp
                    with_reducible rfl
                   rotate_left
                   ·simp only [Act.put, sa_, sz_, ss_, i64_w, i32_w]
                    rfl
                   refine pure_ (i := 5) (N := some 78) (v := ?_) (a' := ?_) #[true, true, true, true, true, true, false, false, false, false, false, false, false, false, false, false, false, false, false, false, false, false, false] rfl rfl (any_of HT_.out (by kernel_rfl)) (fun _ _ _ h => h) (Or.inl ⟨by rfl, ?_⟩) ?_ ?_
                   rotate_left
                   ·intro w'
                    go_simp
                    with_reducible rfl
                   rotate_left
                   ·simp only [Act.put, sa_, sz_, ss_, i64_w, i32_w]
                    rfl
                   refine pure_ (i := 6) (N := some 79) (v := ?_) (a' := ?_) #[true, true, true, true, true, true, true, false, false, false, false, false, false, false, false, false, false, false, false, false, false, false, false] rfl rfl (any_of HT_.out (by kernel_rfl)) (fun _ _ _ h => h) (Or.inl ⟨by rfl, ?_⟩) ?_ ?_
                   rotate_left
                   ·intro w'
                    go_simp
                    with_reducible rfl
                   rotate_left
                   ·simp only [Act.put, sa_, sz_, ss_, i64_w, i32_w]
                    rfl
                   refine pure_ (i := 7) (N := some 80) (v := ?_) (a' := ?_) #[true, true, true, true, true, true, true, true, false, false, false, false, false, false, false, false, false, false, false, false, false, false, false] rfl rfl (any_of HT_.out (by kernel_rfl)) (fun _ _ _ h => h) (Or.inl ⟨by rfl, ?_⟩) ?_ ?_
                   rotate_left
                   ·intro w'
                    go_simp
                    with_reducible rfl
                   rotate_left
                   ·simp only [Act.put, sa_, sz_, ss_, i64_w, i32_w]
                    rfl
                   refine pure_ (i := 8) (N := some 81) (v := ?_) (a' := ?_) #[true, true, true, true, true, true, true, true, true, false, false, false, false, false, false, false, false, false, false, false, false, false, false] rfl rfl (any_of HT_.out (by kernel_rfl)) (fun _ _ _ h => h) (Or.inl ⟨by rfl, ?_⟩) ?_ ?_
                   rotate_left
                   ·intro w'
                    go_simp
                    with_reducible rfl
                   rotate_left
                   ·simp only [Act.put, sa_, sz_, ss_, i64_w, i32_w]
                    rfl
                   refine pure_ (i := 10) (N := some 83) (v := ?_) (a' := ?_) #[true, true, true, true, true, true, true, true, true, false, true, false, false, false, false, false, false, false, false, false, false, false, false] rfl rfl (any_of HT_.out (by kernel_rfl)) (fun _ _ _ h => h) (Or.inl ⟨by rfl, ?_⟩) ?_ ?_
                   rotate_left
                   ·intro w'
                    go_simp
                    with_reducible rfl
                   rotate_left
                   ·simp only [Act.put, sa_, sz_, ss_, i64_w, i32_w]
                    rfl
                   refine take_ (i := 9) (N := some 82) (v := ?_) (a' := ?_) #[true, true, true, true, true, true, true, true, true, true, true, false, false, false, false, false, false, false, false, false, false, false, false] rfl rfl (take_ofW HT_.out HW_.out (by kernel_rfl)) (fun _ _ _ h => h) (Or.inl ⟨by rfl, ?_⟩) hHeld ?_ ?_
                   rotate_left
                   ·rintro w' ⟨s0, s1, s2, s3, s4, s5⟩
                    go_simp
                    with_reducible rfl
                   rotate_left
                   ·simp only [Act.put, sa_, sz_, ss_, i64_w, i32_w]
                    rfl
                   refine take_ (i := 11) (N := some 84) (v := ?_) (a' := ?_) #[true, true, true, true, true, true, true, true, true, true, true, true, false, false, false, false, false, false, false, false, false, false, false] rfl rfl (take_ofW HT_.out HW_.out (by kernel_rfl)) (fun _ _ _ h => h) (Or.inl ⟨by rfl, ?_⟩) hHeld ?_ ?_
                   rotate_left
                   ·rintro w' ⟨s0, s1, s2, s3, s4, s5⟩
                    go_simp
                    with_reducible rfl
                   rotate_left
                   ·simp only [Act.put, sa_, sz_, ss_, i64_w, i32_w]
                    rfl
                   refine pure_ (i := 12) (N := some 85) (v := ?_) (a' := ?_) #[true, true, true, true, true, true, true, true, true, true, true, true, true, false, false, false, false, false, false, false, false, false, false] rfl rfl (any_of HT_.out (by kernel_rfl)) (fun _ _ _ h => h) (Or.inl ⟨by rfl, ?_⟩) ?_ ?_
                   rotate_left
                   ·intro w'
                    go_simp
                    with_reducible rfl
                   rotate_left
                   ·simp only [Act.put, sa_, sz_, ss_, i64_w, i32_w]
                    rfl
                   refine pure_ (i := 13) (N := some 86) (v := ?_) (a' := ?_) #[true, true, true, true, true, true, true, true, true, true, true, true, true, true, false, false, false, false, false, false, false, false, false] rfl rfl (any_of HT_.out (by kernel_rfl)) (fun _ _ _ h => h) (Or.inl ⟨by rfl, ?_⟩) ?_ ?_
                   rotate_left
                   ·intro w'
                    go_simp
                    with_reducible rfl
                   rotate_left
                   ·simp only [Act.put, sa_, sz_, ss_, i64_w, i32_w]
                    rfl
                   refine pure_ (i := 14) (N := some 87) (v := ?_) (a' := ?_) #[true, true, true, true, true, true, true, true, true, true, true, true, true, true, true, false, false, false, false, false, false, false, false] rfl rfl (any_of HT_.out (by kernel_rfl)) (fun _ _ _ h => h) (Or.inl ⟨by rfl, ?_⟩) ?_ ?_
                   rotate_left
                   ·intro w'
                    go_simp
                    with_reducible rfl
                   rotate_left
                   ·simp only [Act.put, sa_, sz_, ss_, i64_w, i32_w]
                    rfl
                   refine pure_ (i := 15) (N := some 88) (v := ?_) (a' := ?_) #[true, true, true, true, true, true, true, true, true, true, true, true, true, true, true, true, false, false, false, false, false, false, false] rfl rfl (any_of HT_.out (by kernel_rfl)) (fun _ _ _ h => h) (Or.inl ⟨by rfl, ?_⟩) ?_ ?_
                   rotate_left
                   ·intro w'
                    go_simp
                    with_reducible rfl
                   rotate_left
                   ·simp only [Act.put, sa_, sz_, ss_, i64_w, i32_w]
                    rfl
                   refine pure_ (i := 16) (N := some 89) (v := ?_) (a' := ?_) #[true, true, true, true, true, true, true, true, true, true, true, true, true, true, true, true, true, false, false, false, false, false, false] rfl rfl (any_of HT_.out (by kernel_rfl)) (fun _ _ _ h => h) (Or.inl ⟨by rfl, ?_⟩) ?_ ?_
                   rotate_left
                   ·intro w'
                    go_simp
                    with_reducible rfl
                   rotate_left
                   ·simp only [Act.put, sa_, sz_, ss_, i64_w, i32_w]
                    rfl
                   refine pure_ (i := 17) (N := some 90) (v := ?_) (a' := ?_) #[true, true, true, true, true, true, true, true, true, true, true, true, true, true, true, true, true, true, false, false, false, false, false] rfl rfl (any_of HT_.out (by kernel_rfl)) (fun _ _ _ h => h) (Or.inl ⟨by rfl, ?_⟩) ?_ ?_
                   rotate_left
                   ·intro w'
                    go_simp
                    with_reducible rfl
                   rotate_left
                   ·simp only [Act.put, sa_, sz_, ss_, i64_w, i32_w]
                    rfl
                   refine pure_ (i := 18) (N := some 91) (v := ?_) (a' := ?_) #[true, true, true, true, true, true, true, true, true, true, true, true, true, true, true, true, true, true, true, false, false, false, false] rfl rfl (any_of HT_.out (by kernel_rfl)) (fun _ _ _ h => h) (Or.inl ⟨by rfl, ?_⟩) ?_ ?_
                   rotate_left
                   ·intro w'
                    go_simp
                    with_reducible rfl
                   rotate_left
                   ·simp only [Act.put, sa_, sz_, ss_, i64_w, i32_w]
                    rfl
                   refine take_ (i := 19) (N := some 92) (v := ?_) (a' := ?_) #[true, true, true, true, true, true, true, true, true, true, true, true, true, true, true, true, true, true, true, true, false, false, false] rfl rfl (take_ofW HT_.out HW_.out (by kernel_rfl)) (fun _ _ _ h => h) (Or.inl ⟨by rfl, ?_⟩) hHeld ?_ ?_
                   rotate_left
                   ·rintro w' ⟨s0, s1, s2, s3, s4, s5⟩
                    go_simp
                    with_reducible rfl
                   rotate_left
                   ·simp only [Act.put, sa_, sz_, ss_, i64_w, i32_w]
                    rfl
                   refine pure_ (i := 20) (N := some 93) (v := ?_) (a' := ?_) #[true, true, true, true, true, true, true, true, true, true, true, true, true, true, true, true, true, true, true, true, true, false, false] rfl rfl (any_of HT_.out (by kernel_rfl)) (fun _ _ _ h => h) (Or.inl ⟨by rfl, ?_⟩) ?_ ?_
                   rotate_left
                   ·intro w'
                    go_simp
                    with_reducible rfl
                   rotate_left
                   ·simp only [Act.put, sa_, sz_, ss_, i64_w, i32_w]
                    rfl
                   refine take_ (i := 21) (N := some 94) (v := ?_) (a' := ?_) #[true, true, true, true, true, true, true, true, true, true, true, true, true, true, true, true, true, true, true, true, true, true, false] rfl rfl (take_ofW HT_.out HW_.out (by kernel_rfl)) (fun _ _ _ h => h) (Or.inl ⟨by rfl, ?_⟩) hHeld ?_ ?_
                   rotate_left
                   ·rintro w' ⟨s0, s1, s2, s3, s4, s5⟩
                    go_simp
                    with_reducible rfl
                   rotate_left
                   ·simp only [Act.put, sa_, sz_, ss_, i64_w, i32_w]
                    rfl
                   refine pure_ (i := 22) (N := some 95) (v := ?_) (a' := ?_) #[true, true, true, true, true, true, true, true, true, true, true, true, true, true, true, true, true, true, true, true, true, true, true] rfl rfl (any_of HT_.out (by kernel_rfl)) (fun _ _ _ h => h) (Or.inl ⟨by rfl, ?_⟩) ?_ ?_
                   rotate_left
                   ·intro w'
                    go_simp
                    with_reducible rfl
                   rotate_left
                   ·simp only [Act.put, sa_, sz_, ss_, i64_w, i32_w]
                    rfl
                   refine done_ (done_of HT_.out (by kernel_rfl)) ?_
                   have p170 : 0 ≤ (x13_2 : Int) := od_
                   have q170 : x13_2 < (l2.length : Int) := od_
                   obtain ⟨ad170, e170, hx170_0⟩ := Kd.at_int HR2.out x13_2 p170 q170
                   obtain rfl : ad163 = ad170 := (by injection e170)
                   replace hx170_0 := lf_ HB.out hx170_0
                   replace p170 := eq_true p170
                   replace q170 := eq_true q170
                   have p107 : 0 ≤ ((rd l2 x13_2) : Int) := od_
                   have q107 : ((rd l2 x13_2) : Int) < ((x12_2.length : Int) : Int) := od_
                   obtain ⟨go107, co107, eo107, gb107, gl107, cl107, HG107⟩ := Kd.R_form HO_12.out (by omega)
                   (first | cases eo107 | (injection eo107 with ea_ en_ ec_; (first | subst ea_ | (injection ea_ with ea_; subst ea_)); subst ec_; clear en_))
                   have GB107 := Aside0.mk gb107
                   have GG107 := Aside0.mk HG107
                   clear gb107 gl107 HG107
                   (first | simp only [add_plain] at hx168_0 | skip)
                   obtain ⟨hx107_0, hf107_0⟩ := Kd.R_celln false HO_12.out ((rd l2 x13_2) : Int) p107 q107
                   replace p107 := eq_true p107
                   replace q107 := eq_true q107
                   obtain ⟨hy115_, hz115_⟩ := Kd.R_celln false HO_12.out ((rd l2 x13_2) : Int) (od_) (od_)
                   have HP115 := Kd.R_putg HO_12.out ((rd l2 x13_2) : Int) true
                   try go_wp2_with (first | ((with_reducible refine gate_store (t := 4) (p := 102) rfl ?_); refine store_event (t := 4) (p := 102) (v := ?vo_w116) (w1 := (w113.setCell ⟨go107, ((rd l2 x13_2) : Int).toNat, none⟩ (.bool true))) ?hg ?ho ?hn ?hr ?_; (case ho => rfl); (case hg => rfl); (case hn => rfl); (case hr => first | (go_simp; done) | (go_simp; rfl)); intro w116 hw; have hg : w113.grownBy w116 (some go107) := (by rw [hw]; exact HP115.2); have hp_ : Kd.R Kd.bool 4 w116 w.heap.size (fun _ => True) (.slice (some ⟨go107, 0, none⟩) x12_2.length co114) y171 := (by rw [hw, Ny171.out]; exact HP115.1); clear HP115; have n0_ := A_ (Kd.R_over' (v := (.slice (some ⟨go107, 0, none⟩) x12_2.length co114)) (rk_ HO_11.out) (Kd.R_typed HO_12.out) (by decide) hg); have n1_ := A_ (hp_); have n2_ := A_ (blk_grown (pk_ BK152.out) hg (Kd.R_ne HO_12.out BK152.out (by decide))); have n3_ := A_ (blk_grown (pk_ BK153.out) hg (Kd.R_ne HO_12.out BK153.out (by decide))); have n4_ := A_ ((by rw [hw]; exact below_set (HB.out) GB107.out : Below w.heap.size w w116)); clear HO_11 HO_12 BK152 BK153 HB; have HO_11 := n0_; have HO_12 := n1_; have BK152 := n2_; have BK153 := n3_; have HB := n4_; clear n0_ n1_ n2_ n3_ n4_ hg hw hp_))
                   have n0_ := A_ (Kd.R_drew HO_11.out)
                   have n1_ := A_ (Kd.R_drew HO_12.out)
                   have n2_ := A_ (blk_drew BK152.out)
                   have n3_ := A_ (blk_drew BK153.out)
                   have n4_ := A_ (below_drew1 HB.out)
                   clear HO_11 HO_12 BK152 BK153 HB
                   have HO_11 := n0_
                   have HO_12 := n1_
                   have BK152 := n2_
                   have BK153 := n3_
                   have HB := n4_
                   clear n0_ n1_ n2_ n3_ n4_
                   have p172 : 0 ≤ (x13_2 : Int) := od_
                   have q172 : x13_2 < (l2.length : Int) := od_
                   obtain ⟨ad172, e172, hx172_0⟩ := Kd.at_int HR2.out x13_2 p172 q172
                   have hw172_0 := hx172_0
                   obtain rfl : ad163 = ad172 := (by injection e172)
                   replace hx172_0 := lf_ HB.out hx172_0
                   replace p172 := eq_true p172
                   replace q172 := eq_true q172
                   have p173 : 0 ≤ (x13_2 : Int) := od_
                   have q173 : x13_2 < (l1_1.length : Int) := od_
                   obtain ⟨ad173, e173, hx173_0⟩ := Kd.at_int HR1_1.out x13_2 p173 q173
                   have hw173_0 := hx173_0
                   cases e173
                   replace hx173_0 := lf_ HB.out hx173_0
                   replace p173 := eq_true p173
                   replace q173 := eq_true q173
                   have p110 : 0 ≤ ((rd l2 x13_2) : Int) := od_
                   have q110 : ((rd l2 x13_2) : Int) < ((x11_2.length : Int) : Int) := od_
                   obtain ⟨go110, co110, eo110, gb110, gl110, cl110, HG110⟩ := Kd.R_form HO_11.out (by omega)
                   (first | cases eo110 | (injection eo110 with ea_ en_ ec_; (first | subst ea_ | (injection ea_ with ea_; subst ea_)); subst ec_; clear en_))
                   have GB110 := Aside0.mk gb110
                   have GG110 := Aside0.mk HG110
                   clear gb110 gl110 HG110
                   obtain ⟨hx110_0, hf110_0⟩ := Kd.R_celln 0 HO_11.out ((rd l2 x13_2) : Int) p110 q110
                   replace p110 := eq_true p110
                   replace q110 := eq_true q110
                   have HP118 := Kd.R_putn HO_11.out ((rd l2 x13_2) : Int) (rd l1_1 x13_2)
                   rw [← Ny174.out] at HP118
                   have HQ118 := Aside0.mk HP118
                   clear HP118
                   refine start_ (n := 12) (S := fun w' => w'.cell? ⟨gb153, 0, none⟩ = some (.int .i64 a1_0) ∧ w'.cell? ⟨gb153, 1, none⟩ = some (.slice (some ad173) l1_1.length c1_1) ∧ w'.cell? (ad163.add (x13_2).toNat) = some (.int .i64 (rd l2 x13_2)) ∧ w'.cell? (ad173.add (x13_2).toNat) = some (.int .i64 (rd l1_1 x13_2))) (ds := [11]) #[false, false, false, false, false, false, false, false, false, false, false, false] (by kernel_rfl) rfl rfl ⟨(blk_cell BK153.out 0).trans rfl, (blk_cell BK153.out 1).trans rfl, ((HB.out.cell (World.block_lt_of_cell? w _ hw172_0)).trans hw172_0), ((HB.out.cell (World.block_lt_of_cell? w _ hw173_0)).trans hw173_0)⟩ (fun hHeld => ?_); refine with_tabW standstilllaw06_CounterNames.tab11 standstilllaw06_CounterNames.bits11 (fun HT_ HW_ => ?_)
                   generalize w116.drew = w117 at HO_11 HO_12 BK152 BK153 HB GG110 HQ118 hf110_0 hx110_0 hx172_0 hx173_0 hHeld ⊢
                   refine pure_ (i := 0) (N := some 103) (v := ?_) (a' := ?_) #[true, false, false, false, false, false, false, false, false, false, false, false] rfl rfl (any_of HT_.out (by kernel_rfl)) (fun _ _ _ h => h) (Or.inl ⟨by rfl, ?_⟩) ?_ ?_
                   rotate_left
                   ·intro w'
                    go_simp
                    with_reducible rfl
                   rotate_left
                   ·simp only [Act.put, sa_, sz_, ss_, i64_w, i32_w]
                    rfl
                   refine pure_ (i := 1) (N := some 104) (v := ?_) (a' := ?_) #[true, true, false, false, false, false, false, false, false, false, false, false] rfl rfl (any_of HT_.out (by kernel_rfl)) (fun _ _ _ h => h) (Or.inl ⟨by rfl, ?_⟩) ?_ ?_
                   rotate_left
                   ·intro w'
                    go_simp
                    with_reducible rfl
                   rotate_left
                   ·simp only [Act.put, sa_, sz_, ss_, i64_w, i32_w]
                    rfl
                   refine pure_ (i := 2) (N := some 105) (v := ?_) (a' := ?_) #[true, true, true, false, false, false, false, false, false, false, false, false] rfl rfl (any_of HT_.out (by kernel_rfl)) (fun _ _ _ h => h) (Or.inl ⟨by rfl, ?_⟩) ?_ ?_
                   rotate_left
                   ·intro w'
                    go_simp
                    with_reducible rfl
                   rotate_left
                   ·simp only [Act.put, sa_, sz_, ss_, i64_w, i32_w]
                    rfl
                   refine pure_ (i := 3) (N := some 106) (v := ?_) (a' := ?_) #[true, true, true, true, false, false, false, false, false, false, false, false] rfl rfl (any_of HT_.out (by kernel_rfl)) (fun _ _ _ h => h) (Or.inl ⟨by rfl, ?_⟩) ?_ ?_
                   rotate_left
                   ·intro w'
                    go_simp
                    with_reducible rfl
                   rotate_left
                   ·simp only [Act.put, sa_, sz_, ss_, i64_w, i32_w]
                    rfl
                   refine pure_ (i := 5) (N := some 108) (v := ?_) (a' := ?_) #[true, true, true, true, false, true, false, false, false, false, false, false] rfl rfl (any_of HT_.out (by kernel_rfl)) (fun _ _ _ h => h) (Or.inl ⟨by rfl, ?_⟩) ?_ ?_
                   rotate_left
                   ·intro w'
                    go_simp
                    with_reducible rfl
                   rotate_left
                   ·simp only [Act.put, sa_, sz_, ss_, i64_w, i32_w]
                    rfl
                   refine pure_ (i := 7) (N := some 110) (v := ?_) (a' := ?_) #[true, true, true, true, false, true, false, true, false, false, false, false] rfl rfl (any_of HT_.out (by kernel_rfl)) (fun _ _ _ h => h) (Or.inl ⟨by rfl, ?_⟩) ?_ ?_
                   rotate_left
                   ·intro w'
                    go_simp
                    with_reducible rfl
                   rotate_left
                   ·simp only [Act.put, sa_, sz_, ss_, i64_w, i32_w]
                    rfl
                   refine take_ (i := 4) (N := some 107) (v := ?_) (a' := ?_) #[true, true, true, true, true, true, false, true, false, false, false, false] rfl rfl (take_ofW HT_.out HW_.out (by kernel_rfl)) (fun _ _ _ h => h) (Or.inl ⟨by rfl, ?_⟩) hHeld ?_ ?_
                   rotate_left
                   ·rintro w' ⟨s0, s1, s2, s3⟩
                    go_simp
                    with_reducible rfl
                   rotate_left
                   ·simp only [Act.put, sa_, sz_, ss_, i64_w, i32_w]
                    rfl
                   refine take_ (i := 6) (N := some 109) (v := ?_) (a' := ?_) #[true, true, true, true, true, true, true, true, false, false, false, false] rfl rfl (take_ofW HT_.out HW_.out (by kernel_rfl)) (fun _ _ _ h => h) (Or.inl ⟨by rfl, ?_⟩) hHeld ?_ ?_
                   rotate_left
                   ·rintro w' ⟨s0, s1, s2, s3⟩
                    go_simp
                    with_reducible rfl
                   rotate_left
                   ·simp only [Act.put, sa_, sz_, ss_, i64_w, i32_w]
                    rfl
                   refine pure_ (i := 8) (N := some 111) (v := ?_) (a' := ?_) #[true, true, true, true, true, true, true, true, true, false, false, false] rfl rfl (any_of HT_.out (by kernel_rfl)) (fun _ _ _ h => h) (Or.inl ⟨by rfl, ?_⟩) ?_ ?_
                   rotate_left
                   ·intro w'
                    go_simp
                    with_reducible rfl
                   rotate_left
                   ·simp only [Act.put, sa_, sz_, ss_, i64_w, i32_w]
                    rfl
                   refine take_ (i := 9) (N := some 112) (v := ?_) (a' := ?_) #[true, true, true, true, true, true, true, true, true, true, false, false] rfl rfl (take_ofW HT_.out HW_.out (by kernel_rfl)) (fun _ _ _ h => h) (Or.inl ⟨by rfl, ?_⟩) hHeld ?_ ?_
                   rotate_left
                   ·rintro w' ⟨s0, s1, s2, s3⟩
                    go_simp
                    with_reducible rfl
                   rotate_left
                   ·simp only [Act.put, sa_, sz_, ss_, i64_w, i32_w]
                    rfl
                   refine pure_ (i := 10) (N := some 113) (v := ?_) (a' := ?_) #[true, true, true, true, true, true, true, true, true, true, true, false] rfl rfl (any_of HT_.out (by kernel_rfl)) (fun _ _ _ h => h) (Or.inl ⟨by rfl, ?_⟩) ?_ ?_
                   rotate_left
                   ·intro w'
                    go_simp
                    with_reducible rfl
                   rotate_left
                   ·simp only [Act.put, sa_, sz_, ss_, i64_w, i32_w]
                    rfl
                   refine last_ (i := 11) (N := none) #[true, true, true, true, true, true, true, true, true, true, true, true] rfl rfl (one_of HT_.out (by kernel_rfl)) (by decide) (fun K hK => ?_)
                   refine skip_ (w1 := ?_) (by rfl) rfl ?_ ?_
                   rotate_left
                   ·go_simp
                    rfl
                   refine hK.out _ _ ?_
                   clear hK K
                   refine done_ (done_of HT_.out (by kernel_rfl)) ?_
                   try go_wp2
                   go_roundg k2
                   case measure => have := HJ5.out; have := HK2.out; omega
                   case rel => exact ⟨(y174), (y171), (wrap64 (x13_2 + 1)), jr_, H', ⟨by have := HJ5.out; have := HK2.out; omega⟩, ⟨by (with_reducible repeat (first | apply Kd.R_alloc | apply Kd.R_drewN | apply Kd.R_drew)); exact HQ118.out⟩, ⟨by (with_reducible repeat (first | apply Kd.R_alloc | apply Kd.R_drewN | apply Kd.R_drew)); exact Kd.R_mono (Kd.R_far (p := ⟨go110, ((rd l2 x13_2) : Int).toNat, none⟩) (Kd.R_types HO_12.out GG110.out (by decide)) (fun _ hk => hk.2) (.int .i64 (rd l1_1 x13_2))) (fun _ hk => trivial)⟩, ⟨by (with_reducible repeat (first | refine blk_drewN ?_ _ | refine blk_drew ?_ | refine blk_alloc ?_ _)); refine blk_far ?_ (by have h_ := Kd.R_ne HO_11.out BK152.out (by decide); intro e_; exact h_ (by rw [e_]; rfl)) _; exact pk_ BK152.out⟩, ⟨by (with_reducible repeat (first | refine blk_drewN ?_ _ | refine blk_drew ?_ | refine blk_alloc ?_ _)); refine blk_far ?_ (by have h_ := Kd.R_ne HO_11.out BK153.out (by decide); intro e_; exact h_ (by rw [e_]; rfl)) _; exact pk_ BK153.out⟩, ⟨by repeat (first | (with_reducible first | exact HB.out | apply below_alloc | apply pw_below_drewN | apply below_drew1 | refine below_set ?_ GB110.out | refine below_set ?_ GE152.out | refine below_set ?_ GE153.out) | exact HB.out)⟩⟩
                  ·rw [if_neg c109] at H
                   exact absurd H (by simp)
                 ·rw [if_neg c108] at H
                  exact absurd H (by simp)
               ·rw [if_neg c98] at H
                exact absurd H (by simp)
              ·rw [if_neg c97] at H
               exact absurd H (by simp)
           ·rw [if_neg c84] at H
            exact absurd H (by simp)
          ·rw [if_neg c83] at H
           exact absurd H (by simp)
         ·rw [if_neg c82] at H
          have c82b0 : decide (x13_2 < a0_0) = false := decide_eq_false c82
          clear c82
          have H' := Aside0.mk H
          clear H
          have hnb119 := NB152_153.out
          have hnc119 := NB153_152.out
          have hcz120_0 : wr.cell? ⟨gb152, 0, none⟩ = some (.int .i64 a0_0) := (blk_cell BK152.out 0).trans rfl
          have hcz120_1 : wr.cell? ⟨gb152, 1, none⟩ = some (.slice A0_1 l0_1.length c0_1) := (blk_cell BK152.out 1).trans rfl
          have hfz120_0 := blk_frozen BK152.out 0
          have hfz120_1 := blk_frozen BK152.out 1
          go_wp2
          go_loopg [14] k2 (fun kq v14 w' => ∃ (x14_3 : Int), v14 = .int .i64 x14_3 ∧ Aside0 (standstilllaw06_CounterNames.l1 kq l2 a3 a4 x11_2 x12_2 x14_3 a0_0 l0_1 a1_0 l1_1 = some r) ∧ Aside0 (kq ≤ k2) ∧ Aside0 (Kd.R (Kd.int .i64) 3 w' w.heap.size (fun _ => True) v158 x11_2) ∧ Aside0 (Kd.R Kd.bool 4 w' w.heap.size (fun _ => True) v161 x12_2) ∧ Aside0 (w'.heap[gb152]? = some (.cells #[.int .i64 a0_0, (.slice A0_1 l0_1.length c0_1)] 24 (0, 0))) ∧ Aside0 (w'.heap[gb153]? = some (.cells #[.int .i64 a1_0, (.slice A1_1 l1_1.length c1_1)] 27 (0, 0))) ∧ Aside0 (Below w.heap.size w w'))
          case atStart => exact ⟨(0), jr_, H', ⟨Nat.le_refl _⟩, ⟨rk_ HO_11.out⟩, ⟨rk_ HO_12.out⟩, ⟨pk_ BK152.out⟩, ⟨pk_ BK153.out⟩, ⟨bk_ HB.out⟩⟩
          case round => as_aux_lemma =>
           clear H'
           (try clear c82); (try clear c82b0); (try clear hcz120_0); (try clear hcz120_1); (try clear hfz120_0); (try clear hfz120_1)
           obtain ⟨x14_3, rfl, HA, HK3, HO_11, HO_12, BK152, BK153, HB⟩ := hrel
           cases gk with
           | zero => exact absurd HA.out (by simp [standstilllaw06_CounterNames.l1])
           | succ k3 =>
            have H := HA.out
            clear HA
            simp only [standstilllaw06_CounterNames.l1] at H
            by_cases c121 : 0 ≤ x14_3
            ·rw [if_pos c121] at H
             have c121b0 : decide (0 ≤ x14_3) = true := decide_eq_true c121
             clear c121
             by_cases c122 : x14_3 < (x12_2.length : Int)
             ·rw [if_pos c122] at H
              have c122b0 : decide (x14_3 < (x12_2.length : Int)) = true := decide_eq_true c122
              clear c122
              obtain ⟨bq123, hbq123⟩ : ∃ b_ : Bool, b_ = (rdOf false x12_2 x14_3) := ⟨_, rfl⟩
              replace H : (if bq123 = true then (standstilllaw06_CounterNames.l1 k3 l2 a3 a4 x11_2 x12_2 (wrap64 (x14_3 + 1)) a0_0 l0_1 a1_0 l1_1) else (if x14_3 < (x11_2.length : Int) then (standstilllaw06_CounterNames.l2 k3 l2 a3 a4 (x11_2.set (x14_3 : Int).toNat a3) x14_3 0 a0_0 l0_1 a1_0 l1_1 (wrap64 (a0_0 + 1)) ([] : List (S33))) else (none))) = some r := by rw [← hbq123] at H; exact H
              have Nbq123 := Aside0.mk hbq123
              clear hbq123
              by_cases c124 : bq123 = true
              ·subst c124
               have H1 : (standstilllaw06_CounterNames.l1 k3 l2 a3 a4 x11_2 x12_2 (wrap64 (x14_3 + 1)) a0_0 l0_1 a1_0 l1_1) = some r := by rw [if_pos rfl] at H; exact H
               clear H
               have H := H1
               clear H1
               have H' := Aside0.mk H
               clear H
               obtain ⟨Ao125, co125, eo125⟩ := Kd.R_slice HO_12.out
               subst eo125
               have p175 : 0 ≤ (x14_3 : Int) := od_
               have q175 : x14_3 < (x12_2.length : Int) := od_
               obtain ⟨ad175, e175, hx175_0⟩ := Kd.at_bool (Kd.R_reads' HO_12.out).2.2 x14_3 p175 q175
               (try rw [← Nbq123.out] at hx175_0)
               cases e175
               replace p175 := eq_true p175
               replace q175 := eq_true q175
               go_wp2
               go_roundg k3
               case measure => have := HJ5.out; have := HK2.out; have := HK3.out; omega
               case rel => exact ⟨(wrap64 (x14_3 + 1)), jr_, H', ⟨by have := HJ5.out; have := HK2.out; have := HK3.out; omega⟩, ⟨rk_ HO_11.out⟩, ⟨rk_ HO_12.out⟩, ⟨pk_ BK152.out⟩, ⟨pk_ BK153.out⟩, ⟨bk_ HB.out⟩⟩
              ·replace c124 := Bool.eq_false_iff.mpr c124
               subst c124
               have H1 : (if x14_3 < (x11_2.length : Int) then (standstilllaw06_CounterNames.l2 k3 l2 a3 a4 (x11_2.set (x14_3 : Int).toNat a3) x14_3 0 a0_0 l0_1 a1_0 l1_1 (wrap64 (a0_0 + 1)) ([] : List (S33))) else (none)) = some r := by rw [if_neg (show ¬ (false = true) by decide)] at H; exact H
               clear H
               have H := H1
               clear H1
               by_cases c126 : x14_3 < (x11_2.length : Int)
               ·rw [if_pos c126] at H
                have c126b0 : decide (x14_3 < (x11_2.length : Int)) = true := decide_eq_true c126
                clear c126
                obtain ⟨y176, hy176⟩ : ∃ y_ : List Int, y_ = (x11_2.set (x14_3 : Int).toNat a3) := ⟨_, rfl⟩
                replace H : (standstilllaw06_CounterNames.l2 k3 l2 a3 a4 y176 x14_3 0 a0_0 l0_1 a1_0 l1_1 (wrap64 (a0_0 + 1)) ([] : List (S33))) = some r := by first | (rw [hy176]; with_reducible exact H) | (have H2_ := (Option.bind_some _ _).symm.trans H; rw [hy176]; with_reducible exact H2_) | (have H2_ := (Option.bind_some _ _).symm.trans H; with_reducible exact H2_) | with_reducible exact H | (rw [hy176]; exact H) | exact H
                have Ny176 := Aside0.mk hy176
                clear hy176
                have H' := Aside0.mk H
                clear H
                obtain ⟨Ao128, co128, eo128⟩ := Kd.R_slice HO_12.out
                subst eo128
                have p175 : 0 ≤ (x14_3 : Int) := od_
                have q175 : x14_3 < (x12_2.length : Int) := od_
                obtain ⟨ad175, e175, hx175_0⟩ := Kd.at_bool (Kd.R_reads' HO_12.out).2.2 x14_3 p175 q175
                (try rw [← Nbq123.out] at hx175_0)
                cases e175
                replace p175 := eq_true p175
                replace q175 := eq_true q175
                have p127 : 0 ≤ (x14_3 : Int) := od_
                have q127 : (x14_3 : Int) < ((x11_2.length : Int) : Int) := od_
                obtain ⟨go127, co127, eo127, gb127, gl127, cl127, HG127⟩ := Kd.R_form HO_11.out (by omega)
                (first | cases eo127 | (injection eo127 with ea_ en_ ec_; (first | subst ea_ | (injection ea_ with ea_; subst ea_)); subst ec_; clear en_))
                have GB127 := Aside0.mk gb127
                have GG127 := Aside0.mk HG127
                clear gb127 gl127 HG127
                obtain ⟨hx127_0, hf127_0⟩ := Kd.R_celln 0 HO_11.out (x14_3 : Int) p127 q127
                replace p127 := eq_true p127
                replace q127 := eq_true q127
                have HP129 := Kd.R_putg HO_11.out (x14_3 : Int) a3
                go_wp2_with (first | ((with_reducible refine gate_store (t := 3) (p := 123) rfl ?_); refine store_event (t := 3) (p := 123) (v := ?vo_w130) (w1 := (wr.setCell ⟨go127, (x14_3 : Int).toNat, none⟩ (.int .i64 a3))) ?hg ?ho ?hn ?hr ?_; (case ho => rfl); (case hg => rfl); (case hn => rfl); (case hr => first | (go_simp; done) | (go_simp; rfl)); intro w130 hw; have hg : wr.grownBy w130 (some go127) := (by rw [hw]; exact HP129.2); have hp_ : Kd.R (Kd.int .i64) 3 w130 w.heap.size (fun _ => True) (.slice (some ⟨go127, 0, none⟩) x11_2.length co127) y176 := (by rw [hw, Ny176.out]; exact HP129.1); clear HP129; have n0_ := A_ (hp_); have n1_ := A_ (Kd.R_over' (v := (.slice (some ⟨go127, 0, none⟩) x11_2.length co127)) (rk_ HO_12.out) (Kd.R_typed HO_11.out) (by decide) hg); have n2_ := A_ (blk_grown (pk_ BK152.out) hg (Kd.R_ne HO_11.out BK152.out (by decide))); have n3_ := A_ (blk_grown (pk_ BK153.out) hg (Kd.R_ne HO_11.out BK153.out (by decide))); have n4_ := A_ ((by rw [hw]; exact below_set (HB.out) GB127.out : Below w.heap.size w w130)); clear HO_11 HO_12 BK152 BK153 HB; have HO_11 := n0_; have HO_12 := n1_; have BK152 := n2_; have BK153 := n3_; have HB := n4_; clear n0_ n1_ n2_ n3_ n4_ hg hw hp_; have hnb131 := NB152_153.out; have hnc131 := NB153_152.out; have hcz132_0 : w130.cell? ⟨gb152, 0, none⟩ = some (.int .i64 a0_0) := (blk_cell BK152.out 0).trans rfl; have hcz132_1 : w130.cell? ⟨gb152, 1, none⟩ = some (.slice A0_1 l0_1.length c0_1) := (blk_cell BK152.out 1).trans rfl; have hfz132_0 := blk_frozen BK152.out 0; have hfz132_1 := blk_frozen BK152.out 1) | ((with_reducible refine gate_dst (N := 15) rfl ?_); (try (refine gate_guard (by rfl) ?_; dsimp only)); refine box_event ?hg (N := 15) ?hd (cs := #[.int .i64 0, .slice none 0 0]) (t := 24) ?hr ?_; (case hd => rfl); (case hg => rfl); (case hr => first | (go_simp; done) | (go_simp; rfl)); intro gb177 hg w133 hbox hb; have n0_ := A_ (Kd.R_below (rk_ HO_11.out) hb); have n1_ := A_ (Kd.R_below (rk_ HO_12.out) hb); have n2_ := A_ (blk_below (pk_ BK152.out) hb); have n3_ := A_ (blk_below (pk_ BK153.out) hb); have n4_ := A_ (below_step (bk_ HB.out) hb); have n5_ := A_ (hbox); have n6_ := A_ ((by rw [hg]; exact (below_size (bk_ HB.out)) : w.heap.size ≤ gb177)); have n7_ := A_ ((by rw [hg]; exact (below_size (bk_ HB.out)) : w.heap.size ≤ gb177)); have n8_ := A_ ((by rw [hg]; exact Nat.ne_of_lt (blk_lt (pk_ BK152.out)) : gb152 ≠ gb177)); have n9_ := A_ ((by rw [hg]; exact Nat.ne_of_gt (blk_lt (pk_ BK152.out)) : gb177 ≠ gb152)); have n10_ := A_ ((by rw [hg]; exact Nat.ne_of_lt (blk_lt (pk_ BK153.out)) : gb153 ≠ gb177)); have n11_ := A_ ((by rw [hg]; exact Nat.ne_of_gt (blk_lt (pk_ BK153.out)) : gb177 ≠ gb153)); clear HO_11 HO_12 BK152 BK153 HB; have HO_11 := n0_; have HO_12 := n1_; have BK152 := n2_; have BK153 := n3_; have HB := n4_; have BK177 := n5_; have GW177 := n6_; have GE177 := n7_; have NB152_177 := n8_; have NB177_152 := n9_; have NB153_177 := n10_; have NB177_153 := n11_; clear n0_ n1_ n2_ n3_ n4_ n5_ n6_ n7_ n8_ n9_ n10_ n11_ hb hbox hg; have hnb134 := NB177_152.out; have hnc134 := NB152_177.out; have hnb135 := NB177_153.out; have hnc135 := NB153_177.out; have hcz136_0 : w133.cell? ⟨gb177, 0, none⟩ = some (.int .i64 0) := (blk_cell BK177.out 0).trans rfl; have hcz136_1 : w133.cell? ⟨gb177, 1, none⟩ = some (.slice none 0 0) := (blk_cell BK177.out 1).trans rfl; have hfz136_0 := blk_frozen BK177.out 0; have hfz136_1 := blk_frozen BK177.out 1))
                go_loopg [16] k3 (fun kq v16 w' => ∃ (x16_4 : Int) (x178001_4 : List (S33)) (u178001 : Value), v16 = .int .i64 x16_4 ∧ Aside0 (standstilllaw06_CounterNames.l2 kq l2 a3 a4 y176 x14_3 x16_4 a0_0 l0_1 a1_0 l1_1 (wrap64 (a0_0 + 1)) x178001_4 = some r) ∧ Aside0 (kq ≤ k3) ∧ Aside0 (Kd.R (Kd.int .i64) 3 w' w.heap.size (fun _ => True) (.slice (some ⟨go127, 0, none⟩) x11_2.length co127) y176) ∧ Aside0 (Kd.R k33 33 w' w.heap.size (fun _ => True) u178001 x178001_4) ∧ Aside0 (w'.heap[gb152]? = some (.cells #[.int .i64 a0_0, (.slice A0_1 l0_1.length c0_1)] 24 (0, 0))) ∧ Aside0 (w'.heap[gb153]? = some (.cells #[.int .i64 a1_0, (.slice A1_1 l1_1.length c1_1)] 27 (0, 0))) ∧ Aside0 (w'.heap[gb177]? = some (.cells #[.int .i64 (wrap64 (a0_0 + 1)), u178001] 24 (0, 0))) ∧ Aside0 (Below w.heap.size w w'))
                case atStart => exact ⟨(0), (([] : List (S33))), (.slice none 0 0), jr_, H', ⟨Nat.le_refl _⟩, ⟨by (with_reducible repeat (first | apply Kd.R_alloc | apply Kd.R_drewN | apply Kd.R_drew)); exact Kd.R_mono (Kd.R_far (p := ⟨gb177, 1, none⟩) (Kd.R_far (p := ⟨gb177, 0, none⟩) (Kd.R_types HO_11.out BK177.out (by decide)) (fun _ hk => hk.2) (.int .i64 (wrap64 (a0_0 + 1)))) (fun _ hk => hk.2) (.slice none 0 0)) (fun _ hk => trivial)⟩, ⟨by first | exact Kd.R_nil _ _ _ _ _ | exact Kd.N_nil _ _ _ _ _ | exact Kd.V_nil _ _ _ _ _ | exact Kd.Q_nil _ _ _ _ _ | exact Kd.S_nil _ _ _ _ _⟩, ⟨by (with_reducible repeat (first | refine blk_drewN ?_ _ | refine blk_drew ?_ | refine blk_alloc ?_ _)); refine blk_far ?_ NB152_177.out _; (with_reducible repeat (first | refine blk_drewN ?_ _ | refine blk_drew ?_ | refine blk_alloc ?_ _)); refine blk_far ?_ NB152_177.out _; exact pk_ BK152.out⟩, ⟨by (with_reducible repeat (first | refine blk_drewN ?_ _ | refine blk_drew ?_ | refine blk_alloc ?_ _)); refine blk_far ?_ NB153_177.out _; (with_reducible repeat (first | refine blk_drewN ?_ _ | refine blk_drew ?_ | refine blk_alloc ?_ _)); refine blk_far ?_ NB153_177.out _; exact pk_ BK153.out⟩, ⟨by (with_reducible repeat (first | refine blk_drewN ?_ _ | refine blk_drew ?_ | refine blk_alloc ?_ _)); refine blk_put (cs := #[.int .i64 (wrap64 (a0_0 + 1)), .slice none 0 0]) ?_ 1 _ rfl; (with_reducible repeat (first | refine blk_drewN ?_ _ | refine blk_drew ?_ | refine blk_alloc ?_ _)); refine blk_put (cs := #[.int .i64 0, .slice none 0 0]) ?_ 0 _ rfl; exact pk_ BK177.out⟩, ⟨bk_ HB.out⟩⟩
                case round => as_aux_lemma =>
                 clear H'
                 (try clear c82); (try clear c82b0); (try clear c121); (try clear c121b0); (try clear c122); (try clear c122b0); (try clear c124); (try clear c126); (try clear c126b0); (try clear p127); (try clear q127); (try clear hcz120_0); (try clear hcz120_1); (try clear hcz132_0); (try clear hcz132_1); (try clear hcz136_0); (try clear hcz136_1); (try clear hfz120_0); (try clear hfz120_1); (try clear hfz132_0); (try clear hfz132_1); (try clear hfz136_0); (try clear hfz136_1); (try clear hx127_0); (try clear hx175_0); (try clear p127); (try clear p175); (try clear q127); (try clear q175)
                 obtain ⟨x16_4, x178001_4, u178001, rfl, HA, HK4, HO_11, HO_178001, BK152, BK153, BK177, HB⟩ := hrel
                 have hl11_4 := (Kd.R_reads' HO_11.out).1
                 rw [hl11_4] at HO_11
                 (try simp only [hl11_4])
                 (try simp only [hl11_4] at BK152)
                 (try simp only [hl11_4] at BK153)
                 (try simp only [hl11_4] at BK177)
                 (try simp only [hl11_4] at HO_178001)
                 cases gk with
                 | zero => exact absurd HA.out (by simp [standstilllaw06_CounterNames.l2])
                 | succ k4 =>
                  have H := HA.out
                  clear HA
                  simp only [standstilllaw06_CounterNames.l2] at H
                  by_cases c137 : x16_4 < (l0_1.length : Int)
                  ·rw [if_pos c137] at H
                   have c137b0 : decide (x16_4 < (l0_1.length : Int)) = true := decide_eq_true c137
                   clear c137
                   by_cases c138 : 0 ≤ x16_4
                   ·rw [if_pos c138] at H
                    have c138b0 : decide (0 ≤ x16_4) = true := decide_eq_true c138
                    clear c138
                    by_cases c139 : ((rd_T33 l0_1 x16_4).f0) = 2
                    ·rw [if_pos c139] at H
                     have c139b0 : (((rd_T33 l0_1 x16_4).f0) == 2) = true := beq_iff_eq.mpr c139
                     have c139b1 : (((rd_T33 l0_1 x16_4).f0) != 2) = false := bne_eq_false_iff_eq.mpr c139
                     clear c139
                     by_cases c140 : x178001_4.length < 4398046511104
                     ·rw [if_pos c140] at H
                      have LMc140 := Aside0.mk c140
                      clear c140
                      obtain ⟨y180, hy180⟩ : ∃ y_ : List (S33), y_ = (x178001_4 ++ [(⟨(rd_T33 l0_1 x16_4).f0, (rd_T33 l0_1 x16_4).f1, (rd_T33 l0_1 x16_4).f2, (rd_T33 l0_1 x16_4).f3⟩ : S33)]) := ⟨_, rfl⟩
                      replace H : (standstilllaw06_CounterNames.l2 k4 l2 a3 a4 y176 x14_3 (wrap64 (x16_4 + 1)) a0_0 l0_1 a1_0 l1_1 (wrap64 (a0_0 + 1)) y180) = some r := by first | (rw [hy180]; with_reducible exact H) | (have H2_ := (Option.bind_some _ _).symm.trans H; rw [hy180]; with_reducible exact H2_) | (have H2_ := (Option.bind_some _ _).symm.trans H; with_reducible exact H2_) | with_reducible exact H | (rw [hy180]; exact H) | exact H
                      have Ny180 := Aside0.mk hy180
                      clear hy180
                      have H' := Aside0.mk H
                      clear H
                      have hnb141 := NB152_153.out
                      have hnc141 := NB153_152.out
                      have hnb142 := NB152_177.out
                      have hnc142 := NB177_152.out
                      have hcz143_0 : wr.cell? ⟨gb152, 0, none⟩ = some (.int .i64 a0_0) := (blk_cell BK152.out 0).trans rfl
                      have hcz143_1 : wr.cell? ⟨gb152, 1, none⟩ = some (.slice A0_1 l0_1.length c0_1) := (blk_cell BK152.out 1).trans rfl
                      have hfz143_0 := blk_frozen BK152.out 0
                      have hfz143_1 := blk_frozen BK152.out 1
                      have p178 : 0 ≤ (x16_4 : Int) := od_
                      have q178 : x16_4 < (l0_1.length : Int) := od_
                      obtain ⟨ad178, e178, hx178_0, hx178_1, hx178_2, hx178_3⟩ := at_T33 HR0_1.out x16_4 p178 q178
                      cases e178
                      replace hx178_0 := lf_ HB.out hx178_0
                      replace hx178_1 := lf_ HB.out hx178_1
                      replace hx178_2 := lf_ HB.out hx178_2
                      replace hx178_3 := lf_ HB.out hx178_3
                      replace p178 := eq_true p178
                      replace q178 := eq_true q178
                      go_wp2_with (first | ((with_reducible refine gate_dst (N := 17) rfl ?_); (try (refine gate_guard (by rfl) ?_; dsimp only)); refine box_event ?hg (N := 17) ?hd (cs := #[.int .i64 0, .int .i64 0, .int .i64 0, .int .i64 0]) (t := 33) ?hr ?_; (case hd => rfl); (case hg => rfl); (case hr => first | (go_simp; done) | (go_simp; rfl)); intro gb179 hg w144 hbox hb; have n0_ := A_ (Kd.R_below (rk_ HO_11.out) hb); have n1_ := A_ (Kd.R_below (Kd.R_elderB (rk_ HO_178001.out) gb179 (Nat.le_of_eq hg.symm)) hb); have n2_ := A_ (blk_below (pk_ BK152.out) hb); have n3_ := A_ (blk_below (pk_ BK153.out) hb); have n4_ := A_ (blk_below (pk_ BK177.out) hb); have n5_ := A_ (below_step (bk_ HB.out) hb); have n6_ := A_ (hbox); have n7_ := A_ ((by rw [hg]; exact (below_size (bk_ HB.out)) : w.heap.size ≤ gb179)); have n8_ := A_ ((by rw [hg]; exact (below_size (bk_ HB.out)) : w.heap.size ≤ gb179)); have n9_ := A_ ((by rw [hg]; exact Nat.ne_of_lt (blk_lt (pk_ BK152.out)) : gb152 ≠ gb179)); have n10_ := A_ ((by rw [hg]; exact Nat.ne_of_gt (blk_lt (pk_ BK152.out)) : gb179 ≠ gb152)); have n11_ := A_ ((by rw [hg]; exact Nat.ne_of_lt (blk_lt (pk_ BK153.out)) : gb153 ≠ gb179)); have n12_ := A_ ((by rw [hg]; exact Nat.ne_of_gt (blk_lt (pk_ BK153.out)) : gb179 ≠ gb153)); have n13_ := A_ ((by rw [hg]; exact Nat.ne_of_lt (blk_lt (pk_ BK177.out)) : gb177 ≠ gb179)); have n14_ := A_ ((by rw [hg]; exact Nat.ne_of_gt (blk_lt (pk_ BK177.out)) : gb179 ≠ gb177)); clear HO_11 HO_178001 BK152 BK153 BK177 HB; have HO_11 := n0_; have HO_178001 := n1_; have BK152 := n2_; have BK153 := n3_; have BK177 := n4_; have HB := n5_; have BK179 := n6_; have GW179 := n7_; have GE179 := n8_; have NB152_179 := n9_; have NB179_152 := n10_; have NB153_179 := n11_; have NB179_153 := n12_; have NB177_179 := n13_; have NB179_177 := n14_; clear n0_ n1_ n2_ n3_ n4_ n5_ n6_ n7_ n8_ n9_ n10_ n11_ n12_ n13_ n14_ hb hbox hg; have hnb145 := NB179_152.out; have hnc145 := NB152_179.out; have hnb146 := NB179_153.out; have hnc146 := NB153_179.out; have hnb147 := NB179_177.out; have hnc147 := NB177_179.out; have hcz148_0 : w144.cell? ⟨gb179, 0, none⟩ = some (.int .i64 0) := (blk_cell BK179.out 0).trans rfl; have hcz148_1 : w144.cell? ⟨gb179, 1, none⟩ = some (.int .i64 0) := (blk_cell BK179.out 1).trans rfl; have hcz148_2 : w144.cell? ⟨gb179, 2, none⟩ = some (.int .i64 0) := (blk_cell BK179.out 2).trans rfl; have hcz148_3 : w144.cell? ⟨gb179, 3, none⟩ = some (.int .i64 0) := (blk_cell BK179.out 3).trans rfl; have hfz148_0 := blk_frozen BK179.out 0; have hfz148_1 := blk_frozen BK179.out 1; have hfz148_2 := blk_frozen BK179.out 2; have hfz148_3 := blk_frozen BK179.out 3; have hnb149 := NB177_153.out; have hnc149 := NB153_177.out; have hcz150_0 : w144.cell? ⟨gb177, 0, none⟩ = some (.int .i64 (wrap64 (a0_0 + 1))) := (blk_cell BK177.out 0).trans rfl; have hcz150_1 : w144.cell? ⟨gb177, 1, none⟩ = some (u178001) := (blk_cell BK177.out 1).trans rfl; have hfz150_0 := blk_frozen BK177.out 0; have hfz150_1 := blk_frozen BK177.out 1) | ((with_reducible refine gate_builtin (b := .append) (xs := #[.tmp 150, .tmp 152]) rfl ?_); (try (refine gate_guard (by rfl) ?_; dsimp only)); at_builtin; refine Kd.R_append k33 (w0 := w) w.heap.size rfl (.tmp 150) (.tmp 152) 22 33 (.agg #[(.int .i64 0), (.int .i64 0), (.int .i64 0), (.int .i64 0)]) 32 rfl Try.underlying22 info33 rfl (by decide) (by omega) u178001 x178001_4 (⟨(rd_T33 l0_1 x16_4).f0, (rd_T33 l0_1 x16_4).f1, (rd_T33 l0_1 x16_4).f2, (rd_T33 l0_1 x16_4).f3⟩ : S33) [.int .i64 ((rd_T33 l0_1 x16_4).f0), .int .i64 ((rd_T33 l0_1 x16_4).f1), .int .i64 ((rd_T33 l0_1 x16_4).f2), .int .i64 ((rd_T33 l0_1 x16_4).f3)] (fun k_ => k_ ≠ gb179) (fun _ => False) rfl (by first | (go_simp; done) | (go_simp; rfl)) ?aP (fun _ hk => hk.elim) ?aF ?aO ?aB ?aS ?aL ?_; (case aP => exact k33_mkM _ _ _ (⟨(rd_T33 l0_1 x16_4).f0, (rd_T33 l0_1 x16_4).f1, (rd_T33 l0_1 x16_4).f2, (rd_T33 l0_1 x16_4).f3⟩ : S33)); (case aB => exact (bk_ HB.out)); (case aF => exact (fun k_ hk => Kd.freshB (g := gb179) (o := .cells #[.int .i64 ((rd_T33 l0_1 x16_4).f0), .int .i64 ((rd_T33 l0_1 x16_4).f1), .int .i64 ((rd_T33 l0_1 x16_4).f2), .int .i64 ((rd_T33 l0_1 x16_4).f3)] 33 (0, 0)) (by (with_reducible repeat (first | refine blk_drewN ?_ _ | refine blk_drew ?_ | refine blk_alloc ?_ _)); refine blk_put (cs := #[.int .i64 ((rd_T33 l0_1 x16_4).f0), .int .i64 ((rd_T33 l0_1 x16_4).f1), .int .i64 ((rd_T33 l0_1 x16_4).f2), .int .i64 0]) ?_ 3 _ rfl; (with_reducible repeat (first | refine blk_drewN ?_ _ | refine blk_drew ?_ | refine blk_alloc ?_ _)); refine blk_put (cs := #[.int .i64 ((rd_T33 l0_1 x16_4).f0), .int .i64 ((rd_T33 l0_1 x16_4).f1), .int .i64 0, .int .i64 0]) ?_ 2 _ rfl; (with_reducible repeat (first | refine blk_drewN ?_ _ | refine blk_drew ?_ | refine blk_alloc ?_ _)); refine blk_put (cs := #[.int .i64 ((rd_T33 l0_1 x16_4).f0), .int .i64 0, .int .i64 0, .int .i64 0]) ?_ 1 _ rfl; (with_reducible repeat (first | refine blk_drewN ?_ _ | refine blk_drew ?_ | refine blk_alloc ?_ _)); refine blk_put (cs := #[.int .i64 0, .int .i64 0, .int .i64 0, .int .i64 0]) ?_ 0 _ rfl; exact pk_ BK179.out) k_ hk)); (case aO => exact (by (with_reducible repeat (first | apply Kd.R_alloc | apply Kd.R_drewN | apply Kd.R_drew)); exact Kd.R_mono (Kd.R_far (p := ⟨gb179, 3, none⟩) (Kd.R_far (p := ⟨gb179, 2, none⟩) (Kd.R_far (p := ⟨gb179, 1, none⟩) (Kd.R_far (p := ⟨gb179, 0, none⟩) (Kd.R_mono HO_178001.out (fun k_ hk => (⟨hk, hk.2⟩ : _ ∧ k_ ≠ gb179))) (fun _ hk => hk.2) (.int .i64 ((rd_T33 l0_1 x16_4).f0))) (fun _ hk => hk.2) (.int .i64 ((rd_T33 l0_1 x16_4).f1))) (fun _ hk => hk.2) (.int .i64 ((rd_T33 l0_1 x16_4).f2))) (fun _ hk => hk.2) (.int .i64 ((rd_T33 l0_1 x16_4).f3))) (fun _ hk => hk.1.2))); (case aS => exact (below_size (bk_ HB.out))); (case aL => have := LMc140.out; omega); intro v181 w151 ho hb hg hat; rw [← Ny180.out] at ho; have n0_ := A_ (Kd.R_over' (by (with_reducible repeat (first | apply Kd.R_alloc | apply Kd.R_drewN | apply Kd.R_drew)); exact (Kd.R_mono (Kd.R_far (p := ⟨gb179, 3, none⟩) (Kd.R_far (p := ⟨gb179, 2, none⟩) (Kd.R_far (p := ⟨gb179, 1, none⟩) (Kd.R_far (p := ⟨gb179, 0, none⟩) (Kd.R_types HO_11.out BK179.out (by decide)) (fun _ hk => hk.2) (.int .i64 ((rd_T33 l0_1 x16_4).f0))) (fun _ hk => hk.2) (.int .i64 ((rd_T33 l0_1 x16_4).f1))) (fun _ hk => hk.2) (.int .i64 ((rd_T33 l0_1 x16_4).f2))) (fun _ hk => hk.2) (.int .i64 ((rd_T33 l0_1 x16_4).f3))) (fun _ h_ => h_.1))) (Kd.R_typed (by (with_reducible repeat (first | apply Kd.R_alloc | apply Kd.R_drewN | apply Kd.R_drew)); exact (Kd.R_mono (Kd.R_far (p := ⟨gb179, 3, none⟩) (Kd.R_far (p := ⟨gb179, 2, none⟩) (Kd.R_far (p := ⟨gb179, 1, none⟩) (Kd.R_far (p := ⟨gb179, 0, none⟩) (Kd.R_mono HO_178001.out (fun k_ hk => (⟨hk, hk.2⟩ : _ ∧ k_ ≠ gb179))) (fun _ hk => hk.2) (.int .i64 ((rd_T33 l0_1 x16_4).f0))) (fun _ hk => hk.2) (.int .i64 ((rd_T33 l0_1 x16_4).f1))) (fun _ hk => hk.2) (.int .i64 ((rd_T33 l0_1 x16_4).f2))) (fun _ hk => hk.2) (.int .i64 ((rd_T33 l0_1 x16_4).f3))) (fun _ h_ => h_.1)))) (by decide) hg); have n1_ := A_ (blk_grown (g := gb152) (o := .cells #[.int .i64 a0_0, .slice (some ad178) l0_1.length c0_1] 24 (0, 0)) (by (with_reducible repeat (first | refine blk_drewN ?_ _ | refine blk_drew ?_ | refine blk_alloc ?_ _)); refine blk_far ?_ NB152_179.out _; (with_reducible repeat (first | refine blk_drewN ?_ _ | refine blk_drew ?_ | refine blk_alloc ?_ _)); refine blk_far ?_ NB152_179.out _; (with_reducible repeat (first | refine blk_drewN ?_ _ | refine blk_drew ?_ | refine blk_alloc ?_ _)); refine blk_far ?_ NB152_179.out _; (with_reducible repeat (first | refine blk_drewN ?_ _ | refine blk_drew ?_ | refine blk_alloc ?_ _)); refine blk_far ?_ NB152_179.out _; exact pk_ BK152.out) hg (Kd.R_ne HO_178001.out BK152.out (by decide))); have n2_ := A_ (blk_grown (g := gb153) (o := .cells #[.int .i64 a1_0, .slice A1_1 l1_1.length c1_1] 27 (0, 0)) (by (with_reducible repeat (first | refine blk_drewN ?_ _ | refine blk_drew ?_ | refine blk_alloc ?_ _)); refine blk_far ?_ NB153_179.out _; (with_reducible repeat (first | refine blk_drewN ?_ _ | refine blk_drew ?_ | refine blk_alloc ?_ _)); refine blk_far ?_ NB153_179.out _; (with_reducible repeat (first | refine blk_drewN ?_ _ | refine blk_drew ?_ | refine blk_alloc ?_ _)); refine blk_far ?_ NB153_179.out _; (with_reducible repeat (first | refine blk_drewN ?_ _ | refine blk_drew ?_ | refine blk_alloc ?_ _)); refine blk_far ?_ NB153_179.out _; exact pk_ BK153.out) hg (Kd.R_ne HO_178001.out BK153.out (by decide))); have n3_ := A_ (blk_grown (g := gb177) (o := .cells #[.int .i64 (wrap64 (a0_0 + 1)), u178001] 24 (0, 0)) (by (with_reducible repeat (first | refine blk_drewN ?_ _ | refine blk_drew ?_ | refine blk_alloc ?_ _)); refine blk_far ?_ NB177_179.out _; (with_reducible repeat (first | refine blk_drewN ?_ _ | refine blk_drew ?_ | refine blk_alloc ?_ _)); refine blk_far ?_ NB177_179.out _; (with_reducible repeat (first | refine blk_drewN ?_ _ | refine blk_drew ?_ | refine blk_alloc ?_ _)); refine blk_far ?_ NB177_179.out _; (with_reducible repeat (first | refine blk_drewN ?_ _ | refine blk_drew ?_ | refine blk_alloc ?_ _)); refine blk_far ?_ NB177_179.out _; exact pk_ BK177.out) hg (Kd.R_ne HO_178001.out BK177.out (by decide))); have n4_ := A_ (blk_grown (g := gb179) (o := .cells #[.int .i64 ((rd_T33 l0_1 x16_4).f0), .int .i64 ((rd_T33 l0_1 x16_4).f1), .int .i64 ((rd_T33 l0_1 x16_4).f2), .int .i64 ((rd_T33 l0_1 x16_4).f3)] 33 (0, 0)) (by (with_reducible repeat (first | refine blk_drewN ?_ _ | refine blk_drew ?_ | refine blk_alloc ?_ _)); refine blk_put (cs := #[.int .i64 ((rd_T33 l0_1 x16_4).f0), .int .i64 ((rd_T33 l0_1 x16_4).f1), .int .i64 ((rd_T33 l0_1 x16_4).f2), .int .i64 0]) ?_ 3 _ rfl; (with_reducible repeat (first | refine blk_drewN ?_ _ | refine blk_drew ?_ | refine blk_alloc ?_ _)); refine blk_put (cs := #[.int .i64 ((rd_T33 l0_1 x16_4).f0), .int .i64 ((rd_T33 l0_1 x16_4).f1), .int .i64 0, .int .i64 0]) ?_ 2 _ rfl; (with_reducible repeat (first | refine blk_drewN ?_ _ | refine blk_drew ?_ | refine blk_alloc ?_ _)); refine blk_put (cs := #[.int .i64 ((rd_T33 l0_1 x16_4).f0), .int .i64 0, .int .i64 0, .int .i64 0]) ?_ 1 _ rfl; (with_reducible repeat (first | refine blk_drewN ?_ _ | refine blk_drew ?_ | refine blk_alloc ?_ _)); refine blk_put (cs := #[.int .i64 0, .int .i64 0, .int .i64 0, .int .i64 0]) ?_ 0 _ rfl; exact pk_ BK179.out) hg (Kd.R_away HO_178001.out (fun _ hk => hk.2))); have n5_ := A_ (hb); have n6_ := A_ (ho); clear HO_11 BK152 BK153 BK177 BK179 HB HO_178001; have HO_11 := n0_; have BK152 := n1_; have BK153 := n2_; have BK177 := n3_; have BK179 := n4_; have HB := n5_; have HO182 := n6_; clear n0_ n1_ n2_ n3_ n4_ n5_ n6_ ho hb hg hat; obtain ⟨Ao152, co152, eo152⟩ := Kd.R_slice HO182.out; subst eo152; have hcz153_0 : w151.cell? ⟨gb177, 0, none⟩ = some (.int .i64 (wrap64 (a0_0 + 1))) := (blk_cell BK177.out 0).trans rfl; have hcz153_1 : w151.cell? ⟨gb177, 1, none⟩ = some (u178001) := (blk_cell BK177.out 1).trans rfl; have hfz153_0 := blk_frozen BK177.out 0; have hfz153_1 := blk_frozen BK177.out 1))
                      (try simp only [← hl11_4])
                      go_roundg k4
                      case measure => have := HJ5.out; have := HK2.out; have := HK3.out; have := HK4.out; omega
                      case rel => exact ⟨(wrap64 (x16_4 + 1)), (y180), (.slice Ao152 y180.length co152), jr_, H', ⟨by have := HJ5.out; have := HK2.out; have := HK3.out; have := HK4.out; omega⟩, ⟨by (try simp only [hl11_4]); (with_reducible repeat (first | apply Kd.R_alloc | apply Kd.R_drewN | apply Kd.R_drew)); exact Kd.R_mono (Kd.R_far (p := ⟨gb177, 1, none⟩) (Kd.R_types HO_11.out BK177.out (by decide)) (fun _ hk => hk.2) (.slice Ao152 y180.length co152)) (fun _ hk => trivial)⟩, ⟨by (try simp only [hl11_4]); (with_reducible repeat (first | apply Kd.R_alloc | apply Kd.R_drewN | apply Kd.R_drew)); exact Kd.R_mono (Kd.R_far (p := ⟨gb177, 1, none⟩) (Kd.R_types HO182.out BK177.out (by decide)) (fun _ hk => hk.2) (.slice Ao152 y180.length co152)) (fun _ hk => trivial)⟩, ⟨by (try simp only [hl11_4]); (with_reducible repeat (first | refine blk_drewN ?_ _ | refine blk_drew ?_ | refine blk_alloc ?_ _)); refine blk_far ?_ NB152_177.out _; exact pk_ BK152.out⟩, ⟨by (try simp only [hl11_4]); (with_reducible repeat (first | refine blk_drewN ?_ _ | refine blk_drew ?_ | refine blk_alloc ?_ _)); refine blk_far ?_ NB153_177.out _; exact pk_ BK153.out⟩, ⟨by (try simp only [hl11_4]); (with_reducible repeat (first | refine blk_drewN ?_ _ | refine blk_drew ?_ | refine blk_alloc ?_ _)); refine blk_put (cs := #[.int .i64 (wrap64 (a0_0 + 1)), u178001]) ?_ 1 _ rfl; exact pk_ BK177.out⟩, ⟨bk_ HB.out⟩⟩
                     ·rw [if_neg c140] at H
                      exact absurd H (by simp)
                    ·rw [if_neg c139] at H
                     have c139b0 : (((rd_T33 l0_1 x16_4).f0) == 2) = false := beq_eq_false_iff_ne.mpr c139
                     have c139b1 : (((rd_T33 l0_1 x16_4).f0) != 2) = true := bne_iff_ne.mpr c139
                     by_cases c154 : 0 ≤ ((rd_T33 l0_1 x16_4).f1)
                     ·rw [if_pos c154] at H
                      have c154b0 : decide (0 ≤ ((rd_T33 l0_1 x16_4).f1)) = true := decide_eq_true c154
                      clear c154
                      by_cases c155 : ((rd_T33 l0_1 x16_4).f1) < (l2.length : Int)
                      ·rw [if_pos c155] at H
                       have c155b0 : decide (((rd_T33 l0_1 x16_4).f1) < (l2.length : Int)) = true := decide_eq_true c155
                       clear c155
                       by_cases c156 : x178001_4.length < 4398046511104
                       ·rw [if_pos c156] at H
                        have LMc156 := Aside0.mk c156
                        clear c156
                        obtain ⟨y184, hy184⟩ : ∃ y_ : List (S33), y_ = (x178001_4 ++ [(⟨(rd_T33 l0_1 x16_4).f0, rd l2 ((rd_T33 l0_1 x16_4).f1), (rd_T33 l0_1 x16_4).f2, (rd_T33 l0_1 x16_4).f3⟩ : S33)]) := ⟨_, rfl⟩
                        replace H : (standstilllaw06_CounterNames.l2 k4 l2 a3 a4 y176 x14_3 (wrap64 (x16_4 + 1)) a0_0 l0_1 a1_0 l1_1 (wrap64 (a0_0 + 1)) y184) = some r := by first | (rw [hy184]; with_reducible exact H) | (have H2_ := (Option.bind_some _ _).symm.trans H; rw [hy184]; with_reducible exact H2_) | (have H2_ := (Option.bind_some _ _).symm.trans H; with_reducible exact H2_) | with_reducible exact H | (rw [hy184]; exact H) | exact H
                        have Ny184 := Aside0.mk hy184
                        clear hy184
                        have H' := Aside0.mk H
                        clear H
                        have hnb157 := NB152_153.out
                        have hnc157 := NB153_152.out
                        have hnb158 := NB152_177.out
                        have hnc158 := NB177_152.out
                        have hcz159_0 : wr.cell? ⟨gb152, 0, none⟩ = some (.int .i64 a0_0) := (blk_cell BK152.out 0).trans rfl
                        have hcz159_1 : wr.cell? ⟨gb152, 1, none⟩ = some (.slice A0_1 l0_1.length c0_1) := (blk_cell BK152.out 1).trans rfl
                        have hfz159_0 := blk_frozen BK152.out 0
                        have hfz159_1 := blk_frozen BK152.out 1
                        have p178 : 0 ≤ (x16_4 : Int) := od_
                        have q178 : x16_4 < (l0_1.length : Int) := od_
                        obtain ⟨ad178, e178, hx178_0, hx178_1, hx178_2, hx178_3⟩ := at_T33 HR0_1.out x16_4 p178 q178
                        cases e178
                        replace hx178_0 := lf_ HB.out hx178_0
                        replace hx178_1 := lf_ HB.out hx178_1
                        replace hx178_2 := lf_ HB.out hx178_2
                        replace hx178_3 := lf_ HB.out hx178_3
                        replace p178 := eq_true p178
                        replace q178 := eq_true q178
                        go_wp2_with (first | ((with_reducible refine gate_dst (N := 17) rfl ?_); (try (refine gate_guard (by rfl) ?_; dsimp only)); refine box_event ?hg (N := 17) ?hd (cs := #[.int .i64 0, .int .i64 0, .int .i64 0, .int .i64 0]) (t := 33) ?hr ?_; (case hd => rfl); (case hg => rfl); (case hr => first | (go_simp; done) | (go_simp; rfl)); intro gb179 hg w160 hbox hb; have n0_ := A_ (Kd.R_below (rk_ HO_11.out) hb); have n1_ := A_ (Kd.R_below (Kd.R_elderB (rk_ HO_178001.out) gb179 (Nat.le_of_eq hg.symm)) hb); have n2_ := A_ (blk_below (pk_ BK152.out) hb); have n3_ := A_ (blk_below (pk_ BK153.out) hb); have n4_ := A_ (blk_below (pk_ BK177.out) hb); have n5_ := A_ (below_step (bk_ HB.out) hb); have n6_ := A_ (hbox); have n7_ := A_ ((by rw [hg]; exact (below_size (bk_ HB.out)) : w.heap.size ≤ gb179)); have n8_ := A_ ((by rw [hg]; exact (below_size (bk_ HB.out)) : w.heap.size ≤ gb179)); have n9_ := A_ ((by rw [hg]; exact Nat.ne_of_lt (blk_lt (pk_ BK152.out)) : gb152 ≠ gb179)); have n10_ := A_ ((by rw [hg]; exact Nat.ne_of_gt (blk_lt (pk_ BK152.out)) : gb179 ≠ gb152)); have n11_ := A_ ((by rw [hg]; exact Nat.ne_of_lt (blk_lt (pk_ BK153.out)) : gb153 ≠ gb179)); have n12_ := A_ ((by rw [hg]; exact Nat.ne_of_gt (blk_lt (pk_ BK153.out)) : gb179 ≠ gb153)); have n13_ := A_ ((by rw [hg]; exact Nat.ne_of_lt (blk_lt (pk_ BK177.out)) : gb177 ≠ gb179)); have n14_ := A_ ((by rw [hg]; exact Nat.ne_of_gt (blk_lt (pk_ BK177.out)) : gb179 ≠ gb177)); clear HO_11 HO_178001 BK152 BK153 BK177 HB; have HO_11 := n0_; have HO_178001 := n1_; have BK152 := n2_; have BK153 := n3_; have BK177 := n4_; have HB := n5_; have BK179 := n6_; have GW179 := n7_; have GE179 := n8_; have NB152_179 := n9_; have NB179_152 := n10_; have NB153_179 := n11_; have NB179_153 := n12_; have NB177_179 := n13_; have NB179_177 := n14_; clear n0_ n1_ n2_ n3_ n4_ n5_ n6_ n7_ n8_ n9_ n10_ n11_ n12_ n13_ n14_ hb hbox hg; have hnb161 := NB179_152.out; have hnc161 := NB152_179.out; have hnb162 := NB179_153.out; have hnc162 := NB153_179.out; have hnb163 := NB179_177.out; have hnc163 := NB177_179.out; have hcz164_0 : w160.cell? ⟨gb179, 0, none⟩ = some (.int .i64 0) := (blk_cell BK179.out 0).trans rfl; have hcz164_1 : w160.cell? ⟨gb179, 1, none⟩ = some (.int .i64 0) := (blk_cell BK179.out 1).trans rfl; have hcz164_2 : w160.cell? ⟨gb179, 2, none⟩ = some (.int .i64 0) := (blk_cell BK179.out 2).trans rfl; have hcz164_3 : w160.cell? ⟨gb179, 3, none⟩ = some (.int .i64 0) := (blk_cell BK179.out 3).trans rfl; have hfz164_0 := blk_frozen BK179.out 0; have hfz164_1 := blk_frozen BK179.out 1; have hfz164_2 := blk_frozen BK179.out 2; have hfz164_3 := blk_frozen BK179.out 3; have p183 : 0 ≤ (((rd_T33 l0_1 x16_4).f1) : Int) := od_; have q183 : ((rd_T33 l0_1 x16_4).f1) < (l2.length : Int) := od_; obtain ⟨ad183, e183, hx183_0⟩ := Kd.at_int HR2.out ((rd_T33 l0_1 x16_4).f1) p183 q183; cases e183; have hn183_0 : ad183.block ≠ gb179 := Nat.ne_of_lt (Nat.lt_of_lt_of_le (by have := World.block_lt_of_cell? _ _ hx183_0; first | rwa [add_block] at this | exact this) GW179.out); have hn183_1 : ad183.block ≠ gb179 := Nat.ne_of_lt (Nat.lt_of_lt_of_le (by have := World.block_lt_of_cell? _ _ hx183_0; first | rwa [add_block] at this | exact this) GW179.out); have hn183_2 : ad183.block ≠ gb179 := Nat.ne_of_lt (Nat.lt_of_lt_of_le (by have := World.block_lt_of_cell? _ _ hx183_0; first | rwa [add_block] at this | exact this) GW179.out); have hn183_3 : ad183.block ≠ gb179 := Nat.ne_of_lt (Nat.lt_of_lt_of_le (by have := World.block_lt_of_cell? _ _ hx183_0; first | rwa [add_block] at this | exact this) GW179.out); replace hx183_0 := lf_ HB.out hx183_0; replace hx183_0 := (cell_far (p := ⟨gb179, 0, none⟩) (by first | (rw [add_block]; exact hn183_0) | (show (Addr.add _ _).block ≠ _; rw [add_block]; exact hn183_0) | exact hn183_0) (.int .i64 ((rd_T33 l0_1 x16_4).f0))).trans hx183_0; replace hx183_0 := (cell_far (p := ⟨gb179, 1, none⟩) (by first | (rw [add_block]; exact hn183_1) | (show (Addr.add _ _).block ≠ _; rw [add_block]; exact hn183_1) | exact hn183_1) (.int .i64 ((rd_T33 l0_1 x16_4).f1))).trans hx183_0; replace hx183_0 := (cell_far (p := ⟨gb179, 2, none⟩) (by first | (rw [add_block]; exact hn183_2) | (show (Addr.add _ _).block ≠ _; rw [add_block]; exact hn183_2) | exact hn183_2) (.int .i64 ((rd_T33 l0_1 x16_4).f2))).trans hx183_0; replace hx183_0 := (cell_far (p := ⟨gb179, 3, none⟩) (by first | (rw [add_block]; exact hn183_3) | (show (Addr.add _ _).block ≠ _; rw [add_block]; exact hn183_3) | exact hn183_3) (.int .i64 ((rd_T33 l0_1 x16_4).f3))).trans hx183_0; clear hn183_0 hn183_1 hn183_2 hn183_3; replace p183 := eq_true p183; replace q183 := eq_true q183; have hnb165 := NB177_153.out; have hnc165 := NB153_177.out; have hcz166_0 : w160.cell? ⟨gb177, 0, none⟩ = some (.int .i64 (wrap64 (a0_0 + 1))) := (blk_cell BK177.out 0).trans rfl; have hcz166_1 : w160.cell? ⟨gb177, 1, none⟩ = some (u178001) := (blk_cell BK177.out 1).trans rfl; have hfz166_0 := blk_frozen BK177.out 0; have hfz166_1 := blk_frozen BK177.out 1) | ((with_reducible refine gate_builtin (b := .append) (xs := #[.tmp 150, .tmp 152]) rfl ?_); (try (refine gate_guard (by rfl) ?_; dsimp only)); at_builtin; refine Kd.R_append k33 (w0 := w) w.heap.size rfl (.tmp 150) (.tmp 152) 22 33 (.agg #[(.int .i64 0), (.int .i64 0), (.int .i64 0), (.int .i64 0)]) 32 rfl Try.underlying22 info33 rfl (by decide) (by omega) u178001 x178001_4 (⟨(rd_T33 l0_1 x16_4).f0, rd l2 ((rd_T33 l0_1 x16_4).f1), (rd_T33 l0_1 x16_4).f2, (rd_T33 l0_1 x16_4).f3⟩ : S33) [.int .i64 ((rd_T33 l0_1 x16_4).f0), .int .i64 (rd l2 ((rd_T33 l0_1 x16_4).f1)), .int .i64 ((rd_T33 l0_1 x16_4).f2), .int .i64 ((rd_T33 l0_1 x16_4).f3)] (fun k_ => k_ ≠ gb179) (fun _ => False) rfl (by first | (go_simp; done) | (go_simp; rfl)) ?aP (fun _ hk => hk.elim) ?aF ?aO ?aB ?aS ?aL ?_; (case aP => exact k33_mkM _ _ _ (⟨(rd_T33 l0_1 x16_4).f0, rd l2 ((rd_T33 l0_1 x16_4).f1), (rd_T33 l0_1 x16_4).f2, (rd_T33 l0_1 x16_4).f3⟩ : S33)); (case aB => exact (bk_ HB.out)); (case aF => exact (fun k_ hk => Kd.freshB (g := gb179) (o := .cells #[.int .i64 ((rd_T33 l0_1 x16_4).f0), .int .i64 (rd l2 ((rd_T33 l0_1 x16_4).f1)), .int .i64 ((rd_T33 l0_1 x16_4).f2), .int .i64 ((rd_T33 l0_1 x16_4).f3)] 33 (0, 0)) (by (with_reducible repeat (first | refine blk_drewN ?_ _ | refine blk_drew ?_ | refine blk_alloc ?_ _)); refine blk_put (cs := #[.int .i64 ((rd_T33 l0_1 x16_4).f0), .int .i64 ((rd_T33 l0_1 x16_4).f1), .int .i64 ((rd_T33 l0_1 x16_4).f2), .int .i64 ((rd_T33 l0_1 x16_4).f3)]) ?_ 1 _ rfl; (with_reducible repeat (first | refine blk_drewN ?_ _ | refine blk_drew ?_ | refine blk_alloc ?_ _)); refine blk_put (cs := #[.int .i64 ((rd_T33 l0_1 x16_4).f0), .int .i64 ((rd_T33 l0_1 x16_4).f1), .int .i64 ((rd_T33 l0_1 x16_4).f2), .int .i64 0]) ?_ 3 _ rfl; (with_reducible repeat (first | refine blk_drewN ?_ _ | refine blk_drew ?_ | refine blk_alloc ?_ _)); refine blk_put (cs := #[.int .i64 ((rd_T33 l0_1 x16_4).f0), .int .i64 ((rd_T33 l0_1 x16_4).f1), .int .i64 0, .int .i64 0]) ?_ 2 _ rfl; (with_reducible repeat (first | refine blk_drewN ?_ _ | refine blk_drew ?_ | refine blk_alloc ?_ _)); refine blk_put (cs := #[.int .i64 ((rd_T33 l0_1 x16_4).f0), .int .i64 0, .int .i64 0, .int .i64 0]) ?_ 1 _ rfl; (with_reducible repeat (first | refine blk_drewN ?_ _ | refine blk_drew ?_ | refine blk_alloc ?_ _)); refine blk_put (cs := #[.int .i64 0, .int .i64 0, .int .i64 0, .int .i64 0]) ?_ 0 _ rfl; exact pk_ BK179.out) k_ hk)); (case aO => exact (by (with_reducible repeat (first | apply Kd.R_alloc | apply Kd.R_drewN | apply Kd.R_drew)); exact Kd.R_mono (Kd.R_far (p := ⟨gb179, 1, none⟩) (Kd.R_far (p := ⟨gb179, 3, none⟩) (Kd.R_far (p := ⟨gb179, 2, none⟩) (Kd.R_far (p := ⟨gb179, 1, none⟩) (Kd.R_far (p := ⟨gb179, 0, none⟩) (Kd.R_mono HO_178001.out (fun k_ hk => (⟨hk, hk.2⟩ : _ ∧ k_ ≠ gb179))) (fun _ hk => hk.2) (.int .i64 ((rd_T33 l0_1 x16_4).f0))) (fun _ hk => hk.2) (.int .i64 ((rd_T33 l0_1 x16_4).f1))) (fun _ hk => hk.2) (.int .i64 ((rd_T33 l0_1 x16_4).f2))) (fun _ hk => hk.2) (.int .i64 ((rd_T33 l0_1 x16_4).f3))) (fun _ hk => hk.2) (.int .i64 (rd l2 ((rd_T33 l0_1 x16_4).f1)))) (fun _ hk => hk.1.2))); (case aS => exact (below_size (bk_ HB.out))); (case aL => have := LMc156.out; omega); intro v185 w167 ho hb hg hat; rw [← Ny184.out] at ho; have n0_ := A_ (Kd.R_over' (by (with_reducible repeat (first | apply Kd.R_alloc | apply Kd.R_drewN | apply Kd.R_drew)); exact (Kd.R_mono (Kd.R_far (p := ⟨gb179, 1, none⟩) (Kd.R_far (p := ⟨gb179, 3, none⟩) (Kd.R_far (p := ⟨gb179, 2, none⟩) (Kd.R_far (p := ⟨gb179, 1, none⟩) (Kd.R_far (p := ⟨gb179, 0, none⟩) (Kd.R_types HO_11.out BK179.out (by decide)) (fun _ hk => hk.2) (.int .i64 ((rd_T33 l0_1 x16_4).f0))) (fun _ hk => hk.2) (.int .i64 ((rd_T33 l0_1 x16_4).f1))) (fun _ hk => hk.2) (.int .i64 ((rd_T33 l0_1 x16_4).f2))) (fun _ hk => hk.2) (.int .i64 ((rd_T33 l0_1 x16_4).f3))) (fun _ hk => hk.2) (.int .i64 (rd l2 ((rd_T33 l0_1 x16_4).f1)))) (fun _ h_ => h_.1))) (Kd.R_typed (by (with_reducible repeat (first | apply Kd.R_alloc | apply Kd.R_drewN | apply Kd.R_drew)); exact (Kd.R_mono (Kd.R_far (p := ⟨gb179, 1, none⟩) (Kd.R_far (p := ⟨gb179, 3, none⟩) (Kd.R_far (p := ⟨gb179, 2, none⟩) (Kd.R_far (p := ⟨gb179, 1, none⟩) (Kd.R_far (p := ⟨gb179, 0, none⟩) (Kd.R_mono HO_178001.out (fun k_ hk => (⟨hk, hk.2⟩ : _ ∧ k_ ≠ gb179))) (fun _ hk => hk.2) (.int .i64 ((rd_T33 l0_1 x16_4).f0))) (fun _ hk => hk.2) (.int .i64 ((rd_T33 l0_1 x16_4).f1))) (fun _ hk => hk.2) (.int .i64 ((rd_T33 l0_1 x16_4).f2))) (fun _ hk => hk.2) (.int .i64 ((rd_T33 l0_1 x16_4).f3))) (fun _ hk => hk.2) (.int .i64 (rd l2 ((rd_T33 l0_1 x16_4).f1)))) (fun _ h_ => h_.1)))) (by decide) hg); have n1_ := A_ (blk_grown (g := gb152) (o := .cells #[.int .i64 a0_0, .slice (some ad178) l0_1.length c0_1] 24 (0, 0)) (by (with_reducible repeat (first | refine blk_drewN ?_ _ | refine blk_drew ?_ | refine blk_alloc ?_ _)); refine blk_far ?_ NB152_179.out _; (with_reducible repeat (first | refine blk_drewN ?_ _ | refine blk_drew ?_ | refine blk_alloc ?_ _)); refine blk_far ?_ NB152_179.out _; (with_reducible repeat (first | refine blk_drewN ?_ _ | refine blk_drew ?_ | refine blk_alloc ?_ _)); refine blk_far ?_ NB152_179.out _; (with_reducible repeat (first | refine blk_drewN ?_ _ | refine blk_drew ?_ | refine blk_alloc ?_ _)); refine blk_far ?_ NB152_179.out _; (with_reducible repeat (first | refine blk_drewN ?_ _ | refine blk_drew ?_ | refine blk_alloc ?_ _)); refine blk_far ?_ NB152_179.out _; exact pk_ BK152.out) hg (Kd.R_ne HO_178001.out BK152.out (by decide))); have n2_ := A_ (blk_grown (g := gb153) (o := .cells #[.int .i64 a1_0, .slice A1_1 l1_1.length c1_1] 27 (0, 0)) (by (with_reducible repeat (first | refine blk_drewN ?_ _ | refine blk_drew ?_ | refine blk_alloc ?_ _)); refine blk_far ?_ NB153_179.out _; (with_reducible repeat (first | refine blk_drewN ?_ _ | refine blk_drew ?_ | refine blk_alloc ?_ _)); refine blk_far ?_ NB153_179.out _; (with_reducible repeat (first | refine blk_drewN ?_ _ | refine blk_drew ?_ | refine blk_alloc ?_ _)); refine blk_far ?_ NB153_179.out _; (with_reducible repeat (first | refine blk_drewN ?_ _ | refine blk_drew ?_ | refine blk_alloc ?_ _)); refine blk_far ?_ NB153_179.out _; (with_reducible repeat (first | refine blk_drewN ?_ _ | refine blk_drew ?_ | refine blk_alloc ?_ _)); refine blk_far ?_ NB153_179.out _; exact pk_ BK153.out) hg (Kd.R_ne HO_178001.out BK153.out (by decide))); have n3_ := A_ (blk_grown (g := gb177) (o := .cells #[.int .i64 (wrap64 (a0_0 + 1)), u178001] 24 (0, 0)) (by (with_reducible repeat (first | refine blk_drewN ?_ _ | refine blk_drew ?_ | refine blk_alloc ?_ _)); refine blk_far ?_ NB177_179.out _; (with_reducible repeat (first | refine blk_drewN ?_ _ | refine blk_drew ?_ | refine blk_alloc ?_ _)); refine blk_far ?_ NB177_179.out _; (with_reducible repeat (first | refine blk_drewN ?_ _ | refine blk_drew ?_ | refine blk_alloc ?_ _)); refine blk_far ?_ NB177_179.out _; (with_reducible repeat (first | refine blk_drewN ?_ _ | refine blk_drew ?_ | refine blk_alloc ?_ _)); refine blk_far ?_ NB177_179.out _; (with_reducible repeat (first | refine blk_drewN ?_ _ | refine blk_drew ?_ | refine blk_alloc ?_ _)); refine blk_far ?_ NB177_179.out _; exact pk_ BK177.out) hg (Kd.R_ne HO_178001.out BK177.out (by decide))); have n4_ := A_ (blk_grown (g := gb179) (o := .cells #[.int .i64 ((rd_T33 l0_1 x16_4).f0), .int .i64 (rd l2 ((rd_T33 l0_1 x16_4).f1)), .int .i64 ((rd_T33 l0_1 x16_4).f2), .int .i64 ((rd_T33 l0_1 x16_4).f3)] 33 (0, 0)) (by (with_reducible repeat (first | refine blk_drewN ?_ _ | refine blk_drew ?_ | refine blk_alloc ?_ _)); refine blk_put (cs := #[.int .i64 ((rd_T33 l0_1 x16_4).f0), .int .i64 ((rd_T33 l0_1 x16_4).f1), .int .i64 ((rd_T33 l0_1 x16_4).f2), .int .i64 ((rd_T33 l0_1 x16_4).f3)]) ?_ 1 _ rfl; (with_reducible repeat (first | refine blk_drewN ?_ _ | refine blk_drew ?_ | refine blk_alloc ?_ _)); refine blk_put (cs := #[.int .i64 ((rd_T33 l0_1 x16_4).f0), .int .i64 ((rd_T33 l0_1 x16_4).f1), .int .i64 ((rd_T33 l0_1 x16_4).f2), .int .i64 0]) ?_ 3 _ rfl; (with_reducible repeat (first | refine blk_drewN ?_ _ | refine blk_drew ?_ | refine blk_alloc ?_ _)); refine blk_put (cs := #[.int .i64 ((rd_T33 l0_1 x16_4).f0), .int .i64 ((rd_T33 l0_1 x16_4).f1), .int .i64 0, .int .i64 0]) ?_ 2 _ rfl; (with_reducible repeat (first | refine blk_drewN ?_ _ | refine blk_drew ?_ | refine blk_alloc ?_ _)); refine blk_put (cs := #[.int .i64 ((rd_T33 l0_1 x16_4).f0), .int .i64 0, .int .i64 0, .int .i64 0]) ?_ 1 _ rfl; (with_reducible repeat (first | refine blk_drewN ?_ _ | refine blk_drew ?_ | refine blk_alloc ?_ _)); refine blk_put (cs := #[.int .i64 0, .int .i64 0, .int .i64 0, .int .i64 0]) ?_ 0 _ rfl; exact pk_ BK179.out) hg (Kd.R_away HO_178001.out (fun _ hk => hk.2))); have n5_ := A_ (hb); have n6_ := A_ (ho); clear HO_11 BK152 BK153 BK177 BK179 HB HO_178001; have HO_11 := n0_; have BK152 := n1_; have BK153 := n2_; have BK177 := n3_; have BK179 := n4_; have HB := n5_; have HO186 := n6_; clear n0_ n1_ n2_ n3_ n4_ n5_ n6_ ho hb hg hat; obtain ⟨Ao168, co168, eo168⟩ := Kd.R_slice HO186.out; subst eo168; have hcz169_0 : w167.cell? ⟨gb177, 0, none⟩ = some (.int .i64 (wrap64 (a0_0 + 1))) := (blk_cell BK177.out 0).trans rfl; have hcz169_1 : w167.cell? ⟨gb177, 1, none⟩ = some (u178001) := (blk_cell BK177.out 1).trans rfl; have hfz169_0 := blk_frozen BK177.out 0; have hfz169_1 := blk_frozen BK177.out 1))
                        (try simp only [← hl11_4])
                        go_roundg k4
                        case measure => have := HJ5.out; have := HK2.out; have := HK3.out; have := HK4.out; omega
                        case rel => exact ⟨(wrap64 (x16_4 + 1)), (y184), (.slice Ao168 y184.length co168), jr_, H', ⟨by have := HJ5.out; have := HK2.out; have := HK3.out; have := HK4.out; omega⟩, ⟨by (try simp only [hl11_4]); (with_reducible repeat (first | apply Kd.R_alloc | apply Kd.R_drewN | apply Kd.R_drew)); exact Kd.R_mono (Kd.R_far (p := ⟨gb177, 1, none⟩) (Kd.R_types HO_11.out BK177.out (by decide)) (fun _ hk => hk.2) (.slice Ao168 y184.length co168)) (fun _ hk => trivial)⟩, ⟨by (try simp only [hl11_4]); (with_reducible repeat (first | apply Kd.R_alloc | apply Kd.R_drewN | apply Kd.R_drew)); exact Kd.R_mono (Kd.R_far (p := ⟨gb177, 1, none⟩) (Kd.R_types HO186.out BK177.out (by decide)) (fun _ hk => hk.2) (.slice Ao168 y184.length co168)) (fun _ hk => trivial)⟩, ⟨by (try simp only [hl11_4]); (with_reducible repeat (first | refine blk_drewN ?_ _ | refine blk_drew ?_ | refine blk_alloc ?_ _)); refine blk_far ?_ NB152_177.out _; exact pk_ BK152.out⟩, ⟨by (try simp only [hl11_4]); (with_reducible repeat (first | refine blk_drewN ?_ _ | refine blk_drew ?_ | refine blk_alloc ?_ _)); refine blk_far ?_ NB153_177.out _; exact pk_ BK153.out⟩, ⟨by (try simp only [hl11_4]); (with_reducible repeat (first | refine blk_drewN ?_ _ | refine blk_drew ?_ | refine blk_alloc ?_ _)); refine blk_put (cs := #[.int .i64 (wrap64 (a0_0 + 1)), u178001]) ?_ 1 _ rfl; exact pk_ BK177.out⟩, ⟨bk_ HB.out⟩⟩
                       ·rw [if_neg c156] at H
                        exact absurd H (by simp)
                      ·rw [if_neg c155] at H
                       exact absurd H (by simp)
                     ·rw [if_neg c154] at H
                      exact absurd H (by simp)
                   ·rw [if_neg c138] at H
                    exact absurd H (by simp)
                  ·rw [if_neg c137] at H
                   have c137b0 : decide (x16_4 < (l0_1.length : Int)) = false := decide_eq_false c137
                   clear c137
                   replace H := Option.bind_eq_some_iff.mp H
                   obtain ⟨⟨t187, t188, t191, t192⟩, A1700, H⟩ := H
                   replace H : ((counter_Run.f k4 (wrap64 (a0_0 + 1)) x178001_4 a1_0 y176 (wrap64 (a4))).bind fun bt194 => (if t192 = bt194.2.2.2 then (standstilllaw06_CounterNames.j4 k4 l2 a3 x14_3 t191 t192 bt194.2.2.1 bt194.2.2.2 (t192 != 0) a0_0 l0_1 t187 t188 bt194.1 bt194.2.1) else (standstilllaw06_CounterNames.j4 k4 l2 a3 x14_3 t191 t192 bt194.2.2.1 bt194.2.2.2 true a0_0 l0_1 t187 t188 bt194.1 bt194.2.1))) = some r := H
                   have A170 := Aside0.mk A1700
                   clear A1700
                   replace H := Option.bind_eq_some_iff.mp H
                   obtain ⟨⟨t194, t195, t198, t199⟩, A1710, H⟩ := H
                   replace H : (if t192 = t199 then (standstilllaw06_CounterNames.j4 k4 l2 a3 x14_3 t191 t192 t198 t199 (t192 != 0) a0_0 l0_1 t187 t188 t194 t195) else (standstilllaw06_CounterNames.j4 k4 l2 a3 x14_3 t191 t192 t198 t199 true a0_0 l0_1 t187 t188 t194 t195)) = some r := H
                   have A171 := Aside0.mk A1710
                   clear A1710
                   have HC172 := Aside0.mk H
                   clear H
                   have hnb173 := NB152_153.out
                   have hnc173 := NB153_152.out
                   have hnb174 := NB152_177.out
                   have hnc174 := NB177_152.out
                   have hcz175_0 : wr.cell? ⟨gb152, 0, none⟩ = some (.int .i64 a0_0) := (blk_cell BK152.out 0).trans rfl
                   have hcz175_1 : wr.cell? ⟨gb152, 1, none⟩ = some (.slice A0_1 l0_1.length c0_1) := (blk_cell BK152.out 1).trans rfl
                   have hfz175_0 := blk_frozen BK152.out 0
                   have hfz175_1 := blk_frozen BK152.out 1
                   have hnb176 := NB153_177.out
                   have hnc176 := NB177_153.out
                   have hcz177_0 : wr.cell? ⟨gb153, 0, none⟩ = some (.int .i64 a1_0) := (blk_cell BK153.out 0).trans rfl
                   have hcz177_1 : wr.cell? ⟨gb153, 1, none⟩ = some (.slice A1_1 l1_1.length c1_1) := (blk_cell BK153.out 1).trans rfl
                   have hfz177_0 := blk_frozen BK153.out 0
                   have hfz177_1 := blk_frozen BK153.out 1
                   go_upto_region 26 with (first | ((with_reducible refine gate_callee (f := 11) rfl ?_); refine goesL_ (some 160) rfl rfl Try.func11 (by kernel_rfl) rfl #[.agg #[.int .i64 a0_0, .slice A0_1 l0_1.length c0_1], .agg #[.int .i64 a1_0, .slice A1_1 l1_1.length c1_1], .int .i64 (wrap64 (a4))] rfl gl_ ?_; (with_reducible refine (counter_Run.calls k4 a0_0 _ _ l0_1 a1_0 _ _ l1_1 (wrap64 (a4)) t187 t188 t191 t192 _ ?side1 ?side2 ?side3 ?side4 A170.out).mono ?_); (case side1 => exact ck_ (Kd.C_below HR0_1.out HB.out)); (case side2 => exact HC0_1.out); (case side3 => exact ck_ (Kd.C_below HR1_1.out HB.out)); (case side4 => exact HC1_1.out); rintro e w178 ⟨v189, rfl, ho0, hb⟩; refine ⟨_, rfl, ?_⟩; have n0_ := A_ (Kd.R_elder' (rk_ HO_11.out) (Kd.R_base ho0) hb); have n1_ := A_ (Kd.R_below (rk_ HO_178001.out) hb); have n2_ := A_ (Kd.R_lower (Kd.R_new' ho0 (Kd.R_lt (rk_ HO_11.out))) (below_size (bk_ HB.out))); have n3_ := A_ (blk_below (pk_ BK152.out) hb); have n4_ := A_ (blk_below (pk_ BK153.out) hb); have n5_ := A_ (blk_below (pk_ BK177.out) hb); have n6_ := A_ (below_step (bk_ HB.out) hb); clear HO_11 HO_178001 BK152 BK153 BK177 HB; have HO_11 := n0_; have HO_178001 := n1_; have HO190 := n2_; have BK152 := n3_; have BK153 := n4_; have BK177 := n5_; have HB := n6_; clear n0_ n1_ n2_ n3_ n4_ n5_ n6_; (try clear hb); (try clear hb2); (try clear hk); (try clear hi); (try clear ho0)) | ((with_reducible refine gate_dst (N := 18) rfl ?_); (try (refine gate_guard (by rfl) ?_; dsimp only)); refine box_event ?hg (N := 18) ?hd (cs := #[.int .i64 0, .slice none 0 0]) (t := 27) ?hr ?_; (case hd => rfl); (case hg => rfl); (case hr => first | (go_simp; done) | (go_simp; rfl)); intro gb193 hg w179 hbox hb; have n0_ := A_ (Kd.R_below (rk_ HO_11.out) hb); have n1_ := A_ (Kd.R_below (rk_ HO_178001.out) hb); have n2_ := A_ (Kd.R_below (rk_ HO190.out) hb); have n3_ := A_ (blk_below (pk_ BK152.out) hb); have n4_ := A_ (blk_below (pk_ BK153.out) hb); have n5_ := A_ (blk_below (pk_ BK177.out) hb); have n6_ := A_ (below_step (bk_ HB.out) hb); have n7_ := A_ (hbox); have n8_ := A_ ((by rw [hg]; exact (below_size (bk_ HB.out)) : w.heap.size ≤ gb193)); have n9_ := A_ ((by rw [hg]; exact (below_size (bk_ HB.out)) : w.heap.size ≤ gb193)); have n10_ := A_ ((by rw [hg]; exact Nat.ne_of_lt (blk_lt (pk_ BK152.out)) : gb152 ≠ gb193)); have n11_ := A_ ((by rw [hg]; exact Nat.ne_of_gt (blk_lt (pk_ BK152.out)) : gb193 ≠ gb152)); have n12_ := A_ ((by rw [hg]; exact Nat.ne_of_lt (blk_lt (pk_ BK153.out)) : gb153 ≠ gb193)); have n13_ := A_ ((by rw [hg]; exact Nat.ne_of_gt (blk_lt (pk_ BK153.out)) : gb193 ≠ gb153)); have n14_ := A_ ((by rw [hg]; exact Nat.ne_of_lt (blk_lt (pk_ BK177.out)) : gb177 ≠ gb193)); have n15_ := A_ ((by rw [hg]; exact Nat.ne_of_gt (blk_lt (pk_ BK177.out)) : gb193 ≠ gb177)); clear HO_11 HO_178001 HO190 BK152 BK153 BK177 HB; have HO_11 := n0_; have HO_178001 := n1_; have HO190 := n2_; have BK152 := n3_; have BK153 := n4_; have BK177 := n5_; have HB := n6_; have BK193 := n7_; have GW193 := n8_; have GE193 := n9_; have NB152_193 := n10_; have NB193_152 := n11_; have NB153_193 := n12_; have NB193_153 := n13_; have NB177_193 := n14_; have NB193_177 := n15_; clear n0_ n1_ n2_ n3_ n4_ n5_ n6_ n7_ n8_ n9_ n10_ n11_ n12_ n13_ n14_ n15_ hb hbox hg; have hnb180 := NB193_152.out; have hnc180 := NB152_193.out; have hnb181 := NB193_153.out; have hnc181 := NB153_193.out; have hnb182 := NB193_177.out; have hnc182 := NB177_193.out; have hcz183_0 : w179.cell? ⟨gb193, 0, none⟩ = some (.int .i64 0) := (blk_cell BK193.out 0).trans rfl; have hcz183_1 : w179.cell? ⟨gb193, 1, none⟩ = some (.slice none 0 0) := (blk_cell BK193.out 1).trans rfl; have hfz183_0 := blk_frozen BK193.out 0; have hfz183_1 := blk_frozen BK193.out 1; obtain ⟨Ao184, co184, eo184⟩ := Kd.R_slice HO190.out; subst eo184; have hcz185_0 : w179.cell? ⟨gb177, 0, none⟩ = some (.int .i64 (wrap64 (a0_0 + 1))) := (blk_cell BK177.out 0).trans rfl; have hcz185_1 : w179.cell? ⟨gb177, 1, none⟩ = some (u178001) := (blk_cell BK177.out 1).trans rfl; have hfz185_0 := blk_frozen BK177.out 0; have hfz185_1 := blk_frozen BK177.out 1; have hcz186_0 : w179.cell? ⟨gb153, 0, none⟩ = some (.int .i64 a1_0) := (blk_cell BK153.out 0).trans rfl; have hcz186_1 : w179.cell? ⟨gb153, 1, none⟩ = some (.slice A1_1 l1_1.length c1_1) := (blk_cell BK153.out 1).trans rfl; have hfz186_0 := blk_frozen BK153.out 0; have hfz186_1 := blk_frozen BK153.out 1; obtain ⟨Ao187, co187, eo187⟩ := Kd.R_slice HO_178001.out; subst eo187) | ((with_reducible refine gate_callee (f := 11) rfl ?_); refine goesL_ (some 172) rfl rfl Try.func11 (by kernel_rfl) rfl #[.agg #[.int .i64 (wrap64 (a0_0 + 1)), .slice Ao187 x178001_4.length co187], .agg #[.int .i64 a1_0, .slice (some ⟨go127, 0, none⟩) y176.length co127], .int .i64 (wrap64 (a4))] rfl gl_ ?_; (with_reducible refine (counter_Run.calls k4 (wrap64 (a0_0 + 1)) _ _ x178001_4 a1_0 _ _ y176 (wrap64 (a4)) t194 t195 t198 t199 _ ?side1 ?side2 ?side3 ?side4 A171.out).mono ?_); (case side1 => refine (Kd.R_reads' (e := 33) (base := w.heap.size) (ok := fun k_ => True) (n := x178001_4.length) (c := co187) ?_).2.2; exact (by (with_reducible repeat (first | apply Kd.R_alloc | apply Kd.R_drewN | apply Kd.R_drew)); exact (Kd.R_mono (Kd.R_far (p := ⟨gb193, 1, none⟩) (Kd.R_far (p := ⟨gb193, 0, none⟩) (Kd.R_types HO_178001.out BK193.out (by decide)) (fun _ hk => hk.2) (.int .i64 t187)) (fun _ hk => hk.2) (.slice Ao184 t188.length co184)) (fun _ h_ => h_.1)))); (case side2 => exact (Kd.R_reads' HO_178001.out).2.1); (case side3 => refine (Kd.R_reads' (e := 3) (base := w.heap.size) (ok := fun k_ => (True ∧ some k_ ≠ (.slice Ao184 t188.length co184 : Value).ownBlock)) (n := y176.length) (c := co127) ?_).2.2; exact (by (with_reducible repeat (first | apply Kd.R_alloc | apply Kd.R_drewN | apply Kd.R_drew)); exact (Kd.R_mono (Kd.R_far (p := ⟨gb193, 1, none⟩) (Kd.R_far (p := ⟨gb193, 0, none⟩) (Kd.R_types HO_11.out BK193.out (by decide)) (fun _ hk => hk.2) (.int .i64 t187)) (fun _ hk => hk.2) (.slice Ao184 t188.length co184)) (fun _ h_ => h_.1)))); (case side4 => exact (Kd.R_reads' HO_11.out).2.1); rintro e w188 ⟨v196, rfl, ho0, hb⟩; refine ⟨_, rfl, ?_⟩; have n0_ := A_ (Kd.R_elder' (by (with_reducible repeat (first | apply Kd.R_alloc | apply Kd.R_drewN | apply Kd.R_drew)); exact (Kd.R_mono (Kd.R_far (p := ⟨gb193, 1, none⟩) (Kd.R_far (p := ⟨gb193, 0, none⟩) (Kd.R_types HO_11.out BK193.out (by decide)) (fun _ hk => hk.2) (.int .i64 t187)) (fun _ hk => hk.2) (.slice Ao184 t188.length co184)) (fun _ h_ => h_.1))) (Kd.R_base ho0) hb); have n1_ := A_ (Kd.R_below (by (with_reducible repeat (first | apply Kd.R_alloc | apply Kd.R_drewN | apply Kd.R_drew)); exact (Kd.R_mono (Kd.R_far (p := ⟨gb193, 1, none⟩) (Kd.R_far (p := ⟨gb193, 0, none⟩) (Kd.R_types HO_178001.out BK193.out (by decide)) (fun _ hk => hk.2) (.int .i64 t187)) (fun _ hk => hk.2) (.slice Ao184 t188.length co184)) (fun _ h_ => h_.1))) hb); have n2_ := A_ (Kd.R_elder' (by (with_reducible repeat (first | apply Kd.R_alloc | apply Kd.R_drewN | apply Kd.R_drew)); exact (Kd.R_mono (Kd.R_far (p := ⟨gb193, 1, none⟩) (Kd.R_far (p := ⟨gb193, 0, none⟩) (Kd.R_types HO190.out BK193.out (by decide)) (fun _ hk => hk.2) (.int .i64 t187)) (fun _ hk => hk.2) (.slice Ao184 t188.length co184)) (fun _ h_ => h_.1))) (Kd.R_base ho0) hb); have n3_ := A_ (Kd.R_lower (Kd.R_new' (Kd.R_new' ho0 (Kd.R_lt (by (with_reducible repeat (first | apply Kd.R_alloc | apply Kd.R_drewN | apply Kd.R_drew)); exact (Kd.R_mono (Kd.R_far (p := ⟨gb193, 1, none⟩) (Kd.R_far (p := ⟨gb193, 0, none⟩) (Kd.R_types HO_11.out BK193.out (by decide)) (fun _ hk => hk.2) (.int .i64 t187)) (fun _ hk => hk.2) (.slice Ao184 t188.length co184)) (fun _ h_ => h_.1))))) (Kd.R_lt (by (with_reducible repeat (first | apply Kd.R_alloc | apply Kd.R_drewN | apply Kd.R_drew)); exact (Kd.R_mono (Kd.R_far (p := ⟨gb193, 1, none⟩) (Kd.R_far (p := ⟨gb193, 0, none⟩) (Kd.R_types HO190.out BK193.out (by decide)) (fun _ hk => hk.2) (.int .i64 t187)) (fun _ hk => hk.2) (.slice Ao184 t188.length co184)) (fun _ h_ => h_.1))))) (below_size (bk_ HB.out))); have n4_ := A_ (blk_below (g := gb152) (o := .cells #[.int .i64 a0_0, .slice A0_1 l0_1.length c0_1] 24 (0, 0)) (by (with_reducible repeat (first | refine blk_drewN ?_ _ | refine blk_drew ?_ | refine blk_alloc ?_ _)); refine blk_far ?_ NB152_193.out _; (with_reducible repeat (first | refine blk_drewN ?_ _ | refine blk_drew ?_ | refine blk_alloc ?_ _)); refine blk_far ?_ NB152_193.out _; exact pk_ BK152.out) hb); have n5_ := A_ (blk_below (g := gb153) (o := .cells #[.int .i64 a1_0, .slice A1_1 l1_1.length c1_1] 27 (0, 0)) (by (with_reducible repeat (first | refine blk_drewN ?_ _ | refine blk_drew ?_ | refine blk_alloc ?_ _)); refine blk_far ?_ NB153_193.out _; (with_reducible repeat (first | refine blk_drewN ?_ _ | refine blk_drew ?_ | refine blk_alloc ?_ _)); refine blk_far ?_ NB153_193.out _; exact pk_ BK153.out) hb); have n6_ := A_ (blk_below (g := gb177) (o := .cells #[.int .i64 (wrap64 (a0_0 + 1)), .slice Ao187 x178001_4.length co187] 24 (0, 0)) (by (with_reducible repeat (first | refine blk_drewN ?_ _ | refine blk_drew ?_ | refine blk_alloc ?_ _)); refine blk_far ?_ NB177_193.out _; (with_reducible repeat (first | refine blk_drewN ?_ _ | refine blk_drew ?_ | refine blk_alloc ?_ _)); refine blk_far ?_ NB177_193.out _; exact pk_ BK177.out) hb); have n7_ := A_ (blk_below (g := gb193) (o := .cells #[.int .i64 t187, .slice Ao184 t188.length co184] 27 (0, 0)) (by (with_reducible repeat (first | refine blk_drewN ?_ _ | refine blk_drew ?_ | refine blk_alloc ?_ _)); refine blk_put (cs := #[.int .i64 t187, .slice none 0 0]) ?_ 1 _ rfl; (with_reducible repeat (first | refine blk_drewN ?_ _ | refine blk_drew ?_ | refine blk_alloc ?_ _)); refine blk_put (cs := #[.int .i64 0, .slice none 0 0]) ?_ 0 _ rfl; exact pk_ BK193.out) hb); have n8_ := A_ (below_step (bk_ HB.out) hb); clear HO_11 HO_178001 HO190 BK152 BK153 BK177 BK193 HB; have HO_11 := n0_; have HO_178001 := n1_; have HO190 := n2_; have HO197 := n3_; have BK152 := n4_; have BK153 := n5_; have BK177 := n6_; have BK193 := n7_; have HB := n8_; clear n0_ n1_ n2_ n3_ n4_ n5_ n6_ n7_ n8_; (try clear hb); (try clear hb2); (try clear hk); (try clear hi); (try clear ho0)) | ((with_reducible refine gate_dst (N := 21) rfl ?_); (try (refine gate_guard (by rfl) ?_; dsimp only)); refine box_event ?hg (N := 21) ?hd (cs := #[.int .i64 0, .slice none 0 0]) (t := 27) ?hr ?_; (case hd => rfl); (case hg => rfl); (case hr => first | (go_simp; done) | (go_simp; rfl)); intro gb200 hg w189 hbox hb; have n0_ := A_ (Kd.R_below (rk_ HO_11.out) hb); have n1_ := A_ (Kd.R_below (rk_ HO_178001.out) hb); have n2_ := A_ (Kd.R_below (rk_ HO190.out) hb); have n3_ := A_ (Kd.R_below (rk_ HO197.out) hb); have n4_ := A_ (blk_below (pk_ BK152.out) hb); have n5_ := A_ (blk_below (pk_ BK153.out) hb); have n6_ := A_ (blk_below (pk_ BK177.out) hb); have n7_ := A_ (blk_below (pk_ BK193.out) hb); have n8_ := A_ (below_step (bk_ HB.out) hb); have n9_ := A_ (hbox); have n10_ := A_ ((by rw [hg]; exact (below_size (bk_ HB.out)) : w.heap.size ≤ gb200)); have n11_ := A_ ((by rw [hg]; exact (below_size (bk_ HB.out)) : w.heap.size ≤ gb200)); have n12_ := A_ ((by rw [hg]; exact Nat.ne_of_lt (blk_lt (pk_ BK152.out)) : gb152 ≠ gb200)); have n13_ := A_ ((by rw [hg]; exact Nat.ne_of_gt (blk_lt (pk_ BK152.out)) : gb200 ≠ gb152)); have n14_ := A_ ((by rw [hg]; exact Nat.ne_of_lt (blk_lt (pk_ BK153.out)) : gb153 ≠ gb200)); have n15_ := A_ ((by rw [hg]; exact Nat.ne_of_gt (blk_lt (pk_ BK153.out)) : gb200 ≠ gb153)); have n16_ := A_ ((by rw [hg]; exact Nat.ne_of_lt (blk_lt (pk_ BK177.out)) : gb177 ≠ gb200)); have n17_ := A_ ((by rw [hg]; exact Nat.ne_of_gt (blk_lt (pk_ BK177.out)) : gb200 ≠ gb177)); have n18_ := A_ ((by rw [hg]; exact Nat.ne_of_lt (blk_lt (pk_ BK193.out)) : gb193 ≠ gb200)); have n19_ := A_ ((by rw [hg]; exact Nat.ne_of_gt (blk_lt (pk_ BK193.out)) : gb200 ≠ gb193)); clear HO_11 HO_178001 HO190 HO197 BK152 BK153 BK177 BK193 HB; have HO_11 := n0_; have HO_178001 := n1_; have HO190 := n2_; have HO197 := n3_; have BK152 := n4_; have BK153 := n5_; have BK177 := n6_; have BK193 := n7_; have HB := n8_; have BK200 := n9_; have GW200 := n10_; have GE200 := n11_; have NB152_200 := n12_; have NB200_152 := n13_; have NB153_200 := n14_; have NB200_153 := n15_; have NB177_200 := n16_; have NB200_177 := n17_; have NB193_200 := n18_; have NB200_193 := n19_; clear n0_ n1_ n2_ n3_ n4_ n5_ n6_ n7_ n8_ n9_ n10_ n11_ n12_ n13_ n14_ n15_ n16_ n17_ n18_ n19_ hb hbox hg; have hnb190 := NB200_152.out; have hnc190 := NB152_200.out; have hnb191 := NB200_153.out; have hnc191 := NB153_200.out; have hnb192 := NB200_177.out; have hnc192 := NB177_200.out; have hnb193 := NB200_193.out; have hnc193 := NB193_200.out; have hcz194_0 : w189.cell? ⟨gb200, 0, none⟩ = some (.int .i64 0) := (blk_cell BK200.out 0).trans rfl; have hcz194_1 : w189.cell? ⟨gb200, 1, none⟩ = some (.slice none 0 0) := (blk_cell BK200.out 1).trans rfl; have hfz194_0 := blk_frozen BK200.out 0; have hfz194_1 := blk_frozen BK200.out 1; obtain ⟨Ao195, co195, eo195⟩ := Kd.R_slice HO197.out; subst eo195))
                   (try simp only [Act.put, List.setIfInBounds_toArray, List.set_cons_zero, List.set_cons_succ])
                   go_cut [182] (fun v182 wc => ∃ (kq : Nat) (x182_171 : Bool), v182 = .bool x182_171 ∧ Aside0 (standstilllaw06_CounterNames.j4 kq l2 a3 x14_3 t191 t192 t198 t199 x182_171 a0_0 l0_1 t187 t188 t194 t195 = some r) ∧ Aside0 (kq ≤ k4) ∧ Aside0 (Kd.R k33 33 wc w.heap.size (fun _ => True) (.slice Ao187 x178001_4.length co187) x178001_4) ∧ Aside0 (Kd.R (Kd.int .i64) 3 wc w.heap.size (fun k_ => some k_ ≠ ((.slice Ao195 t195.length co195) : Value).ownBlock) (.slice Ao184 t188.length co184) t188) ∧ Aside0 (Kd.R (Kd.int .i64) 3 wc w.heap.size (fun k_ => some k_ ≠ ((.slice Ao184 t188.length co184) : Value).ownBlock) (.slice Ao195 t195.length co195) t195) ∧ Aside0 (wc.heap[gb152]? = some (.cells #[.int .i64 a0_0, (.slice A0_1 l0_1.length c0_1)] 24 (0, 0))) ∧ Aside0 (wc.heap[gb153]? = some (.cells #[.int .i64 a1_0, (.slice A1_1 l1_1.length c1_1)] 27 (0, 0))) ∧ Aside0 (wc.heap[gb177]? = some (.cells #[.int .i64 (wrap64 (a0_0 + 1)), (.slice Ao187 x178001_4.length co187)] 24 (0, 0))) ∧ Aside0 (wc.heap[gb193]? = some (.cells #[.int .i64 t187, (.slice Ao184 t188.length co184)] 27 (0, 0))) ∧ Aside0 (wc.heap[gb200]? = some (.cells #[.int .i64 t194, (.slice Ao195 t195.length co195)] 27 (0, 0))) ∧ Aside0 (Below w.heap.size w wc))
                   case first => as_aux_lemma =>
                    have H := HC172.out
                    clear HC172
                    by_cases c196 : t192 = t199
                    ·rw [if_pos c196] at H
                     have c196b0 : (t192 == t199) = true := beq_iff_eq.mpr c196
                     have c196b1 : (t192 != t199) = false := bne_eq_false_iff_eq.mpr c196
                     clear c196
                     (first | rw [c196b0] | (simp only [i64_w, i32_w]; rw [c196b0]) | skip)
                     have H' := Aside0.mk H
                     clear H
                     go_wp2
                     go_meet
                     case rel => exact ⟨_, ((t192 != 0)), jr_, H', ⟨by have := HJ5.out; have := HK2.out; have := HK3.out; have := HK4.out; first | omega | exact Nat.le_refl _⟩, ⟨by (try simp only [hl11_4]); (with_reducible repeat (first | apply Kd.R_alloc | apply Kd.R_drewN | apply Kd.R_drew)); exact Kd.R_mono (Kd.R_far (p := ⟨gb200, 1, none⟩) (Kd.R_far (p := ⟨gb200, 0, none⟩) (Kd.R_types HO_178001.out BK200.out (by decide)) (fun _ hk => hk.2) (.int .i64 t194)) (fun _ hk => hk.2) (.slice Ao195 t195.length co195)) (fun _ hk => trivial)⟩, ⟨by (try simp only [hl11_4]); (with_reducible repeat (first | apply Kd.R_alloc | apply Kd.R_drewN | apply Kd.R_drew)); exact Kd.R_mono (Kd.R_far (p := ⟨gb200, 1, none⟩) (Kd.R_far (p := ⟨gb200, 0, none⟩) (Kd.R_types HO190.out BK200.out (by decide)) (fun _ hk => hk.2) (.int .i64 t194)) (fun _ hk => hk.2) (.slice Ao195 t195.length co195)) (fun _ hk => hk.1.2)⟩, ⟨by (try simp only [hl11_4]); (with_reducible repeat (first | apply Kd.R_alloc | apply Kd.R_drewN | apply Kd.R_drew)); exact Kd.R_mono (Kd.R_far (p := ⟨gb200, 1, none⟩) (Kd.R_far (p := ⟨gb200, 0, none⟩) (Kd.R_types HO197.out BK200.out (by decide)) (fun _ hk => hk.2) (.int .i64 t194)) (fun _ hk => hk.2) (.slice Ao195 t195.length co195)) (fun _ hk => hk.1.2)⟩, ⟨by (try simp only [hl11_4]); (with_reducible repeat (first | refine blk_drewN ?_ _ | refine blk_drew ?_ | refine blk_alloc ?_ _)); refine blk_far ?_ NB152_200.out _; (with_reducible repeat (first | refine blk_drewN ?_ _ | refine blk_drew ?_ | refine blk_alloc ?_ _)); refine blk_far ?_ NB152_200.out _; exact pk_ BK152.out⟩, ⟨by (try simp only [hl11_4]); (with_reducible repeat (first | refine blk_drewN ?_ _ | refine blk_drew ?_ | refine blk_alloc ?_ _)); refine blk_far ?_ NB153_200.out _; (with_reducible repeat (first | refine blk_drewN ?_ _ | refine blk_drew ?_ | refine blk_alloc ?_ _)); refine blk_far ?_ NB153_200.out _; exact pk_ BK153.out⟩, ⟨by (try simp only [hl11_4]); (with_reducible repeat (first | refine blk_drewN ?_ _ | refine blk_drew ?_ | refine blk_alloc ?_ _)); refine blk_far ?_ NB177_200.out _; (with_reducible repeat (first | refine blk_drewN ?_ _ | refine blk_drew ?_ | refine blk_alloc ?_ _)); refine blk_far ?_ NB177_200.out _; exact pk_ BK177.out⟩, ⟨by (try simp only [hl11_4]); (with_reducible repeat (first | refine blk_drewN ?_ _ | refine blk_drew ?_ | refine blk_alloc ?_ _)); refine blk_far ?_ NB193_200.out _; (with_reducible repeat (first | refine blk_drewN ?_ _ | refine blk_drew ?_ | refine blk_alloc ?_ _)); refine blk_far ?_ NB193_200.out _; exact pk_ BK193.out⟩, ⟨by (try simp only [hl11_4]); (with_reducible repeat (first | refine blk_drewN ?_ _ | refine blk_drew ?_ | refine blk_alloc ?_ _)); refine blk_put (cs := #[.int .i64 t194, .slice none 0 0]) ?_ 1 _ rfl; (with_reducible repeat (first | refine blk_drewN ?_ _ | refine blk_drew ?_ | refine blk_alloc ?_ _)); refine blk_put (cs := #[.int .i64 0, .slice none 0 0]) ?_ 0 _ rfl; exact pk_ BK200.out⟩, ⟨bk_ HB.out⟩⟩
                    ·rw [if_neg c196] at H
                     have c196b0 : (t192 == t199) = false := beq_eq_false_iff_ne.mpr c196
                     have c196b1 : (t192 != t199) = true := bne_iff_ne.mpr c196
                     (first | rw [c196b0] | (simp only [i64_w, i32_w]; rw [c196b0]) | skip)
                     have H' := Aside0.mk H
                     clear H
                     go_wp2
                     go_meet
                     case rel => exact ⟨_, (true), jr_, H', ⟨by have := HJ5.out; have := HK2.out; have := HK3.out; have := HK4.out; first | omega | exact Nat.le_refl _⟩, ⟨by (try simp only [hl11_4]); (with_reducible repeat (first | apply Kd.R_alloc | apply Kd.R_drewN | apply Kd.R_drew)); exact Kd.R_mono (Kd.R_far (p := ⟨gb200, 1, none⟩) (Kd.R_far (p := ⟨gb200, 0, none⟩) (Kd.R_types HO_178001.out BK200.out (by decide)) (fun _ hk => hk.2) (.int .i64 t194)) (fun _ hk => hk.2) (.slice Ao195 t195.length co195)) (fun _ hk => trivial)⟩, ⟨by (try simp only [hl11_4]); (with_reducible repeat (first | apply Kd.R_alloc | apply Kd.R_drewN | apply Kd.R_drew)); exact Kd.R_mono (Kd.R_far (p := ⟨gb200, 1, none⟩) (Kd.R_far (p := ⟨gb200, 0, none⟩) (Kd.R_types HO190.out BK200.out (by decide)) (fun _ hk => hk.2) (.int .i64 t194)) (fun _ hk => hk.2) (.slice Ao195 t195.length co195)) (fun _ hk => hk.1.2)⟩, ⟨by (try simp only [hl11_4]); (with_reducible repeat (first | apply Kd.R_alloc | apply Kd.R_drewN | apply Kd.R_drew)); exact Kd.R_mono (Kd.R_far (p := ⟨gb200, 1, none⟩) (Kd.R_far (p := ⟨gb200, 0, none⟩) (Kd.R_types HO197.out BK200.out (by decide)) (fun _ hk => hk.2) (.int .i64 t194)) (fun _ hk => hk.2) (.slice Ao195 t195.length co195)) (fun _ hk => hk.1.2)⟩, ⟨by (try simp only [hl11_4]); (with_reducible repeat (first | refine blk_drewN ?_ _ | refine blk_drew ?_ | refine blk_alloc ?_ _)); refine blk_far ?_ NB152_200.out _; (with_reducible repeat (first | refine blk_drewN ?_ _ | refine blk_drew ?_ | refine blk_alloc ?_ _)); refine blk_far ?_ NB152_200.out _; exact pk_ BK152.out⟩, ⟨by (try simp only [hl11_4]); (with_reducible repeat (first | refine blk_drewN ?_ _ | refine blk_drew ?_ | refine blk_alloc ?_ _)); refine blk_far ?_ NB153_200.out _; (with_reducible repeat (first | refine blk_drewN ?_ _ | refine blk_drew ?_ | refine blk_alloc ?_ _)); refine blk_far ?_ NB153_200.out _; exact pk_ BK153.out⟩, ⟨by (try simp only [hl11_4]); (with_reducible repeat (first | refine blk_drewN ?_ _ | refine blk_drew ?_ | refine blk_alloc ?_ _)); refine blk_far ?_ NB177_200.out _; (with_reducible repeat (first | refine blk_drewN ?_ _ | refine blk_drew ?_ | refine blk_alloc ?_ _)); refine blk_far ?_ NB177_200.out _; exact pk_ BK177.out⟩, ⟨by (try simp only [hl11_4]); (with_reducible repeat (first | refine blk_drewN ?_ _ | refine blk_drew ?_ | refine blk_alloc ?_ _)); refine blk_far ?_ NB193_200.out _; (with_reducible repeat (first | refine blk_drewN ?_ _ | refine blk_drew ?_ | refine blk_alloc ?_ _)); refine blk_far ?_ NB193_200.out _; exact pk_ BK193.out⟩, ⟨by (try simp only [hl11_4]); (with_reducible repeat (first | refine blk_drewN ?_ _ | refine blk_drew ?_ | refine blk_alloc ?_ _)); refine blk_put (cs := #[.int .i64 t194, .slice none 0 0]) ?_ 1 _ rfl; (with_reducible repeat (first | refine blk_drewN ?_ _ | refine blk_drew ?_ | refine blk_alloc ?_ _)); refine blk_put (cs := #[.int .i64 0, .slice none 0 0]) ?_ 0 _ rfl; exact pk_ BK200.out⟩, ⟨bk_ HB.out⟩⟩
                   case rest => as_aux_lemma =>
                    clear HC172
                    (try clear c82); (try clear c82b0); (try clear c121); (try clear c121b0); (try clear c122); (try clear c122b0); (try clear c124); (try clear c126); (try clear c126b0); (try clear p127); (try clear q127); (try clear c137); (try clear c137b0); (try clear p175); (try clear q175); (try clear hcz120_0); (try clear hcz120_1); (try clear hcz132_0); (try clear hcz132_1); (try clear hcz136_0); (try clear hcz136_1); (try clear hcz175_0); (try clear hcz175_1); (try clear hcz177_0); (try clear hcz177_1); (try clear hcz183_0); (try clear hcz183_1); (try clear hcz185_0); (try clear hcz185_1); (try clear hcz186_0); (try clear hcz186_1); (try clear hcz194_0); (try clear hcz194_1); (try clear hfz120_0); (try clear hfz120_1); (try clear hfz132_0); (try clear hfz132_1); (try clear hfz136_0); (try clear hfz136_1); (try clear hfz175_0); (try clear hfz175_1); (try clear hfz177_0); (try clear hfz177_1); (try clear hfz183_0); (try clear hfz183_1); (try clear hfz185_0); (try clear hfz185_1); (try clear hfz186_0); (try clear hfz186_1); (try clear hfz194_0); (try clear hfz194_1); (try clear hx127_0); (try clear hx175_0); (try clear p127); (try clear p175); (try clear q127); (try clear q175)
                    obtain ⟨kq, x182_171, rfl, HA, HJ171, HO_178001, HO_194001, HO_201001, BK152, BK153, BK177, BK193, BK200, HB⟩ := hcut
                    cases kq with
                    | zero => exact absurd HA.out (by simp [standstilllaw06_CounterNames.j4])
                    | succ kj171 =>
                     have H := HA.out
                     clear HA
                     simp only [standstilllaw06_CounterNames.j4] at H
                     by_cases c197 : x182_171 = true
                     ·subst c197
                      have H1 : (if t192 = t199 then ((standstilllaw06_awake.f kj171).bind fun t201 => (some t201)) else (some false)) = some r := by rw [if_pos rfl] at H; exact H
                      clear H
                      have H := H1
                      clear H1
                      by_cases c198 : t192 = t199
                      ·rw [if_pos c198] at H
                       have c198b0 : (t192 == t199) = true := beq_iff_eq.mpr c198
                       have c198b1 : (t192 != t199) = false := bne_eq_false_iff_eq.mpr c198
                       clear c198
                       replace H := Option.bind_eq_some_iff.mp H
                       obtain ⟨t201, A1990, H⟩ := H
                       replace H : (some t201) = some r := H
                       have A199 := Aside0.mk A1990
                       clear A1990
                       obtain rfl := Option.some.inj H
                       go_wp2_with (first | (go_at_call 10; (with_reducible refine (standstilllaw06_awake.calls kj171  t201 _ A199.out).mono ?_); rintro e w200 ⟨rfl, hb⟩; have n0_ := A_ (Kd.R_below (rk_ HO_178001.out) hb); have n1_ := A_ (Kd.R_below (rk_ HO_194001.out) hb); have n2_ := A_ (Kd.R_below (rk_ HO_201001.out) hb); have n3_ := A_ (blk_below (pk_ BK152.out) hb); have n4_ := A_ (blk_below (pk_ BK153.out) hb); have n5_ := A_ (blk_below (pk_ BK177.out) hb); have n6_ := A_ (blk_below (pk_ BK193.out) hb); have n7_ := A_ (blk_below (pk_ BK200.out) hb); have n8_ := A_ (below_step (bk_ HB.out) hb); clear HO_178001 HO_194001 HO_201001 BK152 BK153 BK177 BK193 BK200 HB; have HO_178001 := n0_; have HO_194001 := n1_; have HO_201001 := n2_; have BK152 := n3_; have BK153 := n4_; have BK177 := n5_; have BK193 := n6_; have BK200 := n7_; have HB := n8_; clear n0_ n1_ n2_ n3_ n4_ n5_ n6_ n7_ n8_; (try clear hb); (try clear hb2); (try clear hk); (try clear hi)))
                       go_ret
                       exact ⟨by first | rfl | (simp [errW_none, errW_some] <;> rfl) | (simp [*, errW_none, errW_some] <;> rfl), bk_ HB.out⟩
                      ·rw [if_neg c198] at H
                       have c198b0 : (t192 == t199) = false := beq_eq_false_iff_ne.mpr c198
                       have c198b1 : (t192 != t199) = true := bne_iff_ne.mpr c198
                       obtain rfl := Option.some.inj H
                       go_wp2
                       go_ret
                       exact ⟨by first | rfl | (simp [errW_none, errW_some] <;> rfl) | (simp [*, errW_none, errW_some] <;> rfl), bk_ HB.out⟩
                     ·replace c197 := Bool.eq_false_iff.mpr c197
                      subst c197
                      have H1 : (if t191 = t198 then (if t187 = t194 then (if (t188.length : Int) = a0_0 then (if (t195.length : Int) = (wrap64 (a0_0 + 1)) then (if 0 ≤ x14_3 then (if x14_3 < (t195.length : Int) then (standstilllaw06_CounterNames.j5 kj171 l2 ((rd t195 x14_3) != a3) a0_0 l0_1 t187 t188 t194 t195) else (none)) else (none)) else (standstilllaw06_CounterNames.j5 kj171 l2 true a0_0 l0_1 t187 t188 t194 t195)) else (standstilllaw06_CounterNames.j5 kj171 l2 true a0_0 l0_1 t187 t188 t194 t195)) else (standstilllaw06_CounterNames.j5 kj171 l2 true a0_0 l0_1 t187 t188 t194 t195)) else (standstilllaw06_CounterNames.j5 kj171 l2 true a0_0 l0_1 t187 t188 t194 t195)) = some r := by rw [if_neg (show ¬ (false = true) by decide)] at H; exact H
                      clear H
                      have H := H1
                      clear H1
                      have HC201 := Aside0.mk H
                      clear H
                      go_upto_region 28 with (fail)
                      go_cut [224] (fun v224 wc => ∃ (kq : Nat) (x224_200 : Bool), v224 = .bool x224_200 ∧ Aside0 (standstilllaw06_CounterNames.j5 kq l2 x224_200 a0_0 l0_1 t187 t188 t194 t195 = some r) ∧ Aside0 (kq ≤ kj171) ∧ Aside0 (Kd.R k33 33 wc w.heap.size (fun _ => True) (.slice Ao187 x178001_4.length co187) x178001_4) ∧ Aside0 (Kd.R (Kd.int .i64) 3 wc w.heap.size (fun k_ => some k_ ≠ ((.slice Ao195 t195.length co195) : Value).ownBlock) (.slice Ao184 t188.length co184) t188) ∧ Aside0 (Kd.R (Kd.int .i64) 3 wc w.heap.size (fun k_ => some k_ ≠ ((.slice Ao184 t188.length co184) : Value).ownBlock) (.slice Ao195 t195.length co195) t195) ∧ Aside0 (wc.heap[gb152]? = some (.cells #[.int .i64 a0_0, (.slice A0_1 l0_1.length c0_1)] 24 (0, 0))) ∧ Aside0 (wc.heap[gb153]? = some (.cells #[.int .i64 a1_0, (.slice A1_1 l1_1.length c1_1)] 27 (0, 0))) ∧ Aside0 (wc.heap[gb177]? = some (.cells #[.int .i64 (wrap64 (a0_0 + 1)), (.slice Ao187 x178001_4.length co187)] 24 (0, 0))) ∧ Aside0 (wc.heap[gb193]? = some (.cells #[.int .i64 t187, (.slice Ao184 t188.length co184)] 27 (0, 0))) ∧ Aside0 (wc.heap[gb200]? = some (.cells #[.int .i64 t194, (.slice Ao195 t195.length co195)] 27 (0, 0))) ∧ Aside0 (Below w.heap.size w wc))
                      case first => as_aux_lemma =>
                       have H := HC201.out
                       clear HC201
                       by_cases c202 : t191 = t198
                       ·rw [if_pos c202] at H
                        have c202b0 : (t191 == t198) = true := beq_iff_eq.mpr c202
                        have c202b1 : (t191 != t198) = false := bne_eq_false_iff_eq.mpr c202
                        clear c202
                        (first | rw [c202b0] | (simp only [i64_w, i32_w]; rw [c202b0]) | skip)
                        by_cases c203 : t187 = t194
                        ·rw [if_pos c203] at H
                         have c203b0 : (t187 == t194) = true := beq_iff_eq.mpr c203
                         have c203b1 : (t187 != t194) = false := bne_eq_false_iff_eq.mpr c203
                         clear c203
                         by_cases c204 : (t188.length : Int) = a0_0
                         ·rw [if_pos c204] at H
                          have c204b0 : ((t188.length : Int) == a0_0) = true := beq_iff_eq.mpr c204
                          have c204b1 : ((t188.length : Int) != a0_0) = false := bne_eq_false_iff_eq.mpr c204
                          clear c204
                          by_cases c205 : (t195.length : Int) = (wrap64 (a0_0 + 1))
                          ·rw [if_pos c205] at H
                           have c205b0 : ((t195.length : Int) == (wrap64 (a0_0 + 1))) = true := beq_iff_eq.mpr c205
                           have c205b1 : ((t195.length : Int) != (wrap64 (a0_0 + 1))) = false := bne_eq_false_iff_eq.mpr c205
                           clear c205
                           by_cases c206 : 0 ≤ x14_3
                           ·rw [if_pos c206] at H
                            have c206b0 : decide (0 ≤ x14_3) = true := decide_eq_true c206
                            clear c206
                            by_cases c207 : x14_3 < (t195.length : Int)
                            ·rw [if_pos c207] at H
                             have c207b0 : decide (x14_3 < (t195.length : Int)) = true := decide_eq_true c207
                             clear c207
                             have H' := Aside0.mk H
                             clear H
                             have hnb208 := NB193_152.out
                             have hnc208 := NB152_193.out
                             have hnb209 := NB193_153.out
                             have hnc209 := NB153_193.out
                             have hnb210 := NB193_177.out
                             have hnc210 := NB177_193.out
                             have hnb211 := NB193_200.out
                             have hnc211 := NB200_193.out
                             have hcz212_0 : wc.cell? ⟨gb193, 0, none⟩ = some (.int .i64 t187) := (blk_cell BK193.out 0).trans rfl
                             have hcz212_1 : wc.cell? ⟨gb193, 1, none⟩ = some (.slice Ao184 t188.length co184) := (blk_cell BK193.out 1).trans rfl
                             have hfz212_0 := blk_frozen BK193.out 0
                             have hfz212_1 := blk_frozen BK193.out 1
                             have hnb213 := NB200_152.out
                             have hnc213 := NB152_200.out
                             have hnb214 := NB200_153.out
                             have hnc214 := NB153_200.out
                             have hnb215 := NB200_177.out
                             have hnc215 := NB177_200.out
                             have hcz216_0 : wc.cell? ⟨gb200, 0, none⟩ = some (.int .i64 t194) := (blk_cell BK200.out 0).trans rfl
                             have hcz216_1 : wc.cell? ⟨gb200, 1, none⟩ = some (.slice Ao195 t195.length co195) := (blk_cell BK200.out 1).trans rfl
                             have hfz216_0 := blk_frozen BK200.out 0
                             have hfz216_1 := blk_frozen BK200.out 1
                             have hnb217 := NB152_153.out
                             have hnc217 := NB153_152.out
                             have hnb218 := NB152_177.out
                             have hnc218 := NB177_152.out
                             have hcz219_0 : wc.cell? ⟨gb152, 0, none⟩ = some (.int .i64 a0_0) := (blk_cell BK152.out 0).trans rfl
                             have hcz219_1 : wc.cell? ⟨gb152, 1, none⟩ = some (.slice A0_1 l0_1.length c0_1) := (blk_cell BK152.out 1).trans rfl
                             have hfz219_0 := blk_frozen BK152.out 0
                             have hfz219_1 := blk_frozen BK152.out 1
                             have p202 : 0 ≤ (x14_3 : Int) := od_
                             have q202 : x14_3 < (t195.length : Int) := od_
                             obtain ⟨ad202, e202, hx202_0⟩ := Kd.at_int (Kd.R_reads' HO_201001.out).2.2 x14_3 p202 q202
                             cases e202
                             replace p202 := eq_true p202
                             replace q202 := eq_true q202
                             go_wp2
                             go_meet
                             case rel => exact ⟨_, (((rd t195 x14_3) != a3)), jr_, H', ⟨by have := HJ5.out; have := HK2.out; have := HK3.out; have := HK4.out; have := HJ171.out; first | omega | exact Nat.le_refl _⟩, ⟨by (try simp only [hl11_4]); (with_reducible repeat (first | apply Kd.R_alloc | apply Kd.R_drewN | apply Kd.R_drew)); exact HO_178001.out⟩, ⟨by (try simp only [hl11_4]); (with_reducible repeat (first | apply Kd.R_alloc | apply Kd.R_drewN | apply Kd.R_drew)); exact HO_194001.out⟩, ⟨by (try simp only [hl11_4]); (with_reducible repeat (first | apply Kd.R_alloc | apply Kd.R_drewN | apply Kd.R_drew)); exact HO_201001.out⟩, ⟨by (try simp only [hl11_4]); exact pk_ BK152.out⟩, ⟨by (try simp only [hl11_4]); exact pk_ BK153.out⟩, ⟨by (try simp only [hl11_4]); exact pk_ BK177.out⟩, ⟨by (try simp only [hl11_4]); exact pk_ BK193.out⟩, ⟨by (try simp only [hl11_4]); exact pk_ BK200.out⟩, ⟨bk_ HB.out⟩⟩
                            ·rw [if_neg c207] at H
                             exact absurd H (by simp)
                           ·rw [if_neg c206] at H
                            exact absurd H (by simp)
                          ·rw [if_neg c205] at H
                           have c205b0 : ((t195.length : Int) == (wrap64 (a0_0 + 1))) = false := beq_eq_false_iff_ne.mpr c205
                           have c205b1 : ((t195.length : Int) != (wrap64 (a0_0 + 1))) = true := bne_iff_ne.mpr c205
                           have H' := Aside0.mk H
                           clear H
                           have hnb220 := NB193_152.out
                           have hnc220 := NB152_193.out
                           have hnb221 := NB193_153.out
                           have hnc221 := NB153_193.out
                           have hnb222 := NB193_177.out
                           have hnc222 := NB177_193.out
                           have hnb223 := NB193_200.out
                           have hnc223 := NB200_193.out
                           have hcz224_0 : wc.cell? ⟨gb193, 0, none⟩ = some (.int .i64 t187) := (blk_cell BK193.out 0).trans rfl
                           have hcz224_1 : wc.cell? ⟨gb193, 1, none⟩ = some (.slice Ao184 t188.length co184) := (blk_cell BK193.out 1).trans rfl
                           have hfz224_0 := blk_frozen BK193.out 0
                           have hfz224_1 := blk_frozen BK193.out 1
                           have hnb225 := NB200_152.out
                           have hnc225 := NB152_200.out
                           have hnb226 := NB200_153.out
                           have hnc226 := NB153_200.out
                           have hnb227 := NB200_177.out
                           have hnc227 := NB177_200.out
                           have hcz228_0 : wc.cell? ⟨gb200, 0, none⟩ = some (.int .i64 t194) := (blk_cell BK200.out 0).trans rfl
                           have hcz228_1 : wc.cell? ⟨gb200, 1, none⟩ = some (.slice Ao195 t195.length co195) := (blk_cell BK200.out 1).trans rfl
                           have hfz228_0 := blk_frozen BK200.out 0
                           have hfz228_1 := blk_frozen BK200.out 1
                           have hnb229 := NB152_153.out
                           have hnc229 := NB153_152.out
                           have hnb230 := NB152_177.out
                           have hnc230 := NB177_152.out
                           have hcz231_0 : wc.cell? ⟨gb152, 0, none⟩ = some (.int .i64 a0_0) := (blk_cell BK152.out 0).trans rfl
                           have hcz231_1 : wc.cell? ⟨gb152, 1, none⟩ = some (.slice A0_1 l0_1.length c0_1) := (blk_cell BK152.out 1).trans rfl
                           have hfz231_0 := blk_frozen BK152.out 0
                           have hfz231_1 := blk_frozen BK152.out 1
                           go_wp2
                           go_meet
                           case rel => exact ⟨_, (true), jr_, H', ⟨by have := HJ5.out; have := HK2.out; have := HK3.out; have := HK4.out; have := HJ171.out; first | omega | exact Nat.le_refl _⟩, ⟨by (try simp only [hl11_4]); (with_reducible repeat (first | apply Kd.R_alloc | apply Kd.R_drewN | apply Kd.R_drew)); exact HO_178001.out⟩, ⟨by (try simp only [hl11_4]); (with_reducible repeat (first | apply Kd.R_alloc | apply Kd.R_drewN | apply Kd.R_drew)); exact HO_194001.out⟩, ⟨by (try simp only [hl11_4]); (with_reducible repeat (first | apply Kd.R_alloc | apply Kd.R_drewN | apply Kd.R_drew)); exact HO_201001.out⟩, ⟨by (try simp only [hl11_4]); exact pk_ BK152.out⟩, ⟨by (try simp only [hl11_4]); exact pk_ BK153.out⟩, ⟨by (try simp only [hl11_4]); exact pk_ BK177.out⟩, ⟨by (try simp only [hl11_4]); exact pk_ BK193.out⟩, ⟨by (try simp only [hl11_4]); exact pk_ BK200.out⟩, ⟨bk_ HB.out⟩⟩
                         ·rw [if_neg c204] at H
                          have c204b0 : ((t188.length : Int) == a0_0) = false := beq_eq_false_iff_ne.mpr c204
                          have c204b1 : ((t188.length : Int) != a0_0) = true := bne_iff_ne.mpr c204
                          have H' := Aside0.mk H
                          clear H
                          have hnb232 := NB193_152.out
                          have hnc232 := NB152_193.out
                          have hnb233 := NB193_153.out
                          have hnc233 := NB153_193.out
                          have hnb234 := NB193_177.out
                          have hnc234 := NB177_193.out
                          have hnb235 := NB193_200.out
                          have hnc235 := NB200_193.out
                          have hcz236_0 : wc.cell? ⟨gb193, 0, none⟩ = some (.int .i64 t187) := (blk_cell BK193.out 0).trans rfl
                          have hcz236_1 : wc.cell? ⟨gb193, 1, none⟩ = some (.slice Ao184 t188.length co184) := (blk_cell BK193.out 1).trans rfl
                          have hfz236_0 := blk_frozen BK193.out 0
                          have hfz236_1 := blk_frozen BK193.out 1
                          have hnb237 := NB200_152.out
                          have hnc237 := NB152_200.out
                          have hnb238 := NB200_153.out
                          have hnc238 := NB153_200.out
                          have hnb239 := NB200_177.out
                          have hnc239 := NB177_200.out
                          have hcz240_0 : wc.cell? ⟨gb200, 0, none⟩ = some (.int .i64 t194) := (blk_cell BK200.out 0).trans rfl
                          have hcz240_1 : wc.cell? ⟨gb200, 1, none⟩ = some (.slice Ao195 t195.length co195) := (blk_cell BK200.out 1).trans rfl
                          have hfz240_0 := blk_frozen BK200.out 0
                          have hfz240_1 := blk_frozen BK200.out 1
                          have hnb241 := NB152_153.out
                          have hnc241 := NB153_152.out
                          have hnb242 := NB152_177.out
                          have hnc242 := NB177_152.out
                          have hcz243_0 : wc.cell? ⟨gb152, 0, none⟩ = some (.int .i64 a0_0) := (blk_cell BK152.out 0).trans rfl
                          have hcz243_1 : wc.cell? ⟨gb152, 1, none⟩ = some (.slice A0_1 l0_1.length c0_1) := (blk_cell BK152.out 1).trans rfl
                          have hfz243_0 := blk_frozen BK152.out 0
                          have hfz243_1 := blk_frozen BK152.out 1
                          go_wp2
                          go_meet
                          case rel => exact ⟨_, (true), jr_, H', ⟨by have := HJ5.out; have := HK2.out; have := HK3.out; have := HK4.out; have := HJ171.out; first | omega | exact Nat.le_refl _⟩, ⟨by (try simp only [hl11_4]); (with_reducible repeat (first | apply Kd.R_alloc | apply Kd.R_drewN | apply Kd.R_drew)); exact HO_178001.out⟩, ⟨by (try simp only [hl11_4]); (with_reducible repeat (first | apply Kd.R_alloc | apply Kd.R_drewN | apply Kd.R_drew)); exact HO_194001.out⟩, ⟨by (try simp only [hl11_4]); (with_reducible repeat (first | apply Kd.R_alloc | apply Kd.R_drewN | apply Kd.R_drew)); exact HO_201001.out⟩, ⟨by (try simp only [hl11_4]); exact pk_ BK152.out⟩, ⟨by (try simp only [hl11_4]); exact pk_ BK153.out⟩, ⟨by (try simp only [hl11_4]); exact pk_ BK177.out⟩, ⟨by (try simp only [hl11_4]); exact pk_ BK193.out⟩, ⟨by (try simp only [hl11_4]); exact pk_ BK200.out⟩, ⟨bk_ HB.out⟩⟩
                        ·rw [if_neg c203] at H
                         have c203b0 : (t187 == t194) = false := beq_eq_false_iff_ne.mpr c203
                         have c203b1 : (t187 != t194) = true := bne_iff_ne.mpr c203
                         have H' := Aside0.mk H
                         clear H
                         have hnb244 := NB193_152.out
                         have hnc244 := NB152_193.out
                         have hnb245 := NB193_153.out
                         have hnc245 := NB153_193.out
                         have hnb246 := NB193_177.out
                         have hnc246 := NB177_193.out
                         have hnb247 := NB193_200.out
                         have hnc247 := NB200_193.out
                         have hcz248_0 : wc.cell? ⟨gb193, 0, none⟩ = some (.int .i64 t187) := (blk_cell BK193.out 0).trans rfl
                         have hcz248_1 : wc.cell? ⟨gb193, 1, none⟩ = some (.slice Ao184 t188.length co184) := (blk_cell BK193.out 1).trans rfl
                         have hfz248_0 := blk_frozen BK193.out 0
                         have hfz248_1 := blk_frozen BK193.out 1
                         have hnb249 := NB200_152.out
                         have hnc249 := NB152_200.out
                         have hnb250 := NB200_153.out
                         have hnc250 := NB153_200.out
                         have hnb251 := NB200_177.out
                         have hnc251 := NB177_200.out
                         have hcz252_0 : wc.cell? ⟨gb200, 0, none⟩ = some (.int .i64 t194) := (blk_cell BK200.out 0).trans rfl
                         have hcz252_1 : wc.cell? ⟨gb200, 1, none⟩ = some (.slice Ao195 t195.length co195) := (blk_cell BK200.out 1).trans rfl
                         have hfz252_0 := blk_frozen BK200.out 0
                         have hfz252_1 := blk_frozen BK200.out 1
                         go_wp2
                         go_meet
                         case rel => exact ⟨_, (true), jr_, H', ⟨by have := HJ5.out; have := HK2.out; have := HK3.out; have := HK4.out; have := HJ171.out; first | omega | exact Nat.le_refl _⟩, ⟨by (try simp only [hl11_4]); (with_reducible repeat (first | apply Kd.R_alloc | apply Kd.R_drewN | apply Kd.R_drew)); exact HO_178001.out⟩, ⟨by (try simp only [hl11_4]); (with_reducible repeat (first | apply Kd.R_alloc | apply Kd.R_drewN | apply Kd.R_drew)); exact HO_194001.out⟩, ⟨by (try simp only [hl11_4]); (with_reducible repeat (first | apply Kd.R_alloc | apply Kd.R_drewN | apply Kd.R_drew)); exact HO_201001.out⟩, ⟨by (try simp only [hl11_4]); exact pk_ BK152.out⟩, ⟨by (try simp only [hl11_4]); exact pk_ BK153.out⟩, ⟨by (try simp only [hl11_4]); exact pk_ BK177.out⟩, ⟨by (try simp only [hl11_4]); exact pk_ BK193.out⟩, ⟨by (try simp only [hl11_4]); exact pk_ BK200.out⟩, ⟨bk_ HB.out⟩⟩
                       ·rw [if_neg c202] at H
                        have c202b0 : (t191 == t198) = false := beq_eq_false_iff_ne.mpr c202
                        have c202b1 : (t191 != t198) = true := bne_iff_ne.mpr c202
                        (first | rw [c202b0] | (simp only [i64_w, i32_w]; rw [c202b0]) | skip)
                        have H' := Aside0.mk H
                        clear H
                        go_wp2
                        go_meet
                        case rel => exact ⟨_, (true), jr_, H', ⟨by have := HJ5.out; have := HK2.out; have := HK3.out; have := HK4.out; have := HJ171.out; first | omega | exact Nat.le_refl _⟩, ⟨by (try simp only [hl11_4]); (with_reducible repeat (first | apply Kd.R_alloc | apply Kd.R_drewN | apply Kd.R_drew)); exact HO_178001.out⟩, ⟨by (try simp only [hl11_4]); (with_reducible repeat (first | apply Kd.R_alloc | apply Kd.R_drewN | apply Kd.R_drew)); exact HO_194001.out⟩, ⟨by (try simp only [hl11_4]); (with_reducible repeat (first | apply Kd.R_alloc | apply Kd.R_drewN | apply Kd.R_drew)); exact HO_201001.out⟩, ⟨by (try simp only [hl11_4]); exact pk_ BK152.out⟩, ⟨by (try simp only [hl11_4]); exact pk_ BK153.out⟩, ⟨by (try simp only [hl11_4]); exact pk_ BK177.out⟩, ⟨by (try simp only [hl11_4]); exact pk_ BK193.out⟩, ⟨by (try simp only [hl11_4]); exact pk_ BK200.out⟩, ⟨bk_ HB.out⟩⟩
                      case rest => as_aux_lemma =>
                       clear HC201
                       (try clear c2); (try clear c82); (try clear c82b0); (try clear c121); (try clear c121b0); (try clear c122); (try clear c122b0); (try clear c124); (try clear c126); (try clear c126b0); (try clear p127); (try clear q127); (try clear c137); (try clear c137b0); (try clear p175); (try clear q175); (try clear c197); (try clear hcz120_0); (try clear hcz120_1); (try clear hcz132_0); (try clear hcz132_1); (try clear hcz136_0); (try clear hcz136_1); (try clear hcz175_0); (try clear hcz175_1); (try clear hcz177_0); (try clear hcz177_1); (try clear hcz183_0); (try clear hcz183_1); (try clear hcz185_0); (try clear hcz185_1); (try clear hcz186_0); (try clear hcz186_1); (try clear hcz194_0); (try clear hcz194_1); (try clear hfz120_0); (try clear hfz120_1); (try clear hfz132_0); (try clear hfz132_1); (try clear hfz136_0); (try clear hfz136_1); (try clear hfz175_0); (try clear hfz175_1); (try clear hfz177_0); (try clear hfz177_1); (try clear hfz183_0); (try clear hfz183_1); (try clear hfz185_0); (try clear hfz185_1); (try clear hfz186_0); (try clear hfz186_1); (try clear hfz194_0); (try clear hfz194_1); (try clear hx127_0); (try clear hx175_0); (try clear p127); (try clear p175); (try clear q127); (try clear q175)
                       obtain ⟨kq, x224_200, rfl, HA, HJ200, HO_178001, HO_194001, HO_201001, BK152, BK153, BK177, BK193, BK200, HB⟩ := hcut
                       cases kq with
                       | zero => exact absurd HA.out (by simp [standstilllaw06_CounterNames.j5])
                       | succ kj200 =>
                        have H := HA.out
                        clear HA
                        simp only [standstilllaw06_CounterNames.j5] at H
                        by_cases c253 : x224_200 = true
                        ·subst c253
                         have H1 : (some false) = some r := by rw [if_pos rfl] at H; exact H
                         clear H
                         have H := H1
                         clear H1
                         obtain rfl := Option.some.inj H
                         go_wp2
                         go_ret
                         exact ⟨by first | rfl | (simp [errW_none, errW_some] <;> rfl) | (simp [*, errW_none, errW_some] <;> rfl), bk_ HB.out⟩
                        ·replace c253 := Bool.eq_false_iff.mpr c253
                         subst c253
                         have H1 : (standstilllaw06_CounterNames.l3 kj200 l2 0 a0_0 l0_1 t187 t188 t194 t195) = some r := by rw [if_neg (show ¬ (false = true) by decide)] at H; exact H
                         clear H
                         have H := H1
                         clear H1
                         have H' := Aside0.mk H
                         clear H
                         go_wp2
                         go_loopg [24] kj200 (fun kq v24 w' => ∃ (x24_7 : Int), v24 = .int .i64 x24_7 ∧ Aside0 (standstilllaw06_CounterNames.l3 kq l2 x24_7 a0_0 l0_1 t187 t188 t194 t195 = some r) ∧ Aside0 (kq ≤ kj200) ∧ Aside0 (Kd.R k33 33 w' w.heap.size (fun _ => True) (.slice Ao187 x178001_4.length co187) x178001_4) ∧ Aside0 (Kd.R (Kd.int .i64) 3 w' w.heap.size (fun k_ => some k_ ≠ ((.slice Ao195 t195.length co195) : Value).ownBlock) (.slice Ao184 t188.length co184) t188) ∧ Aside0 (Kd.R (Kd.int .i64) 3 w' w.heap.size (fun k_ => some k_ ≠ ((.slice Ao184 t188.length co184) : Value).ownBlock) (.slice Ao195 t195.length co195) t195) ∧ Aside0 (w'.heap[gb152]? = some (.cells #[.int .i64 a0_0, (.slice A0_1 l0_1.length c0_1)] 24 (0, 0))) ∧ Aside0 (w'.heap[gb153]? = some (.cells #[.int .i64 a1_0, (.slice A1_1 l1_1.length c1_1)] 27 (0, 0))) ∧ Aside0 (w'.heap[gb177]? = some (.cells #[.int .i64 (wrap64 (a0_0 + 1)), (.slice Ao187 x178001_4.length co187)] 24 (0, 0))) ∧ Aside0 (w'.heap[gb193]? = some (.cells #[.int .i64 t187, (.slice Ao184 t188.length co184)] 27 (0, 0))) ∧ Aside0 (w'.heap[gb200]? = some (.cells #[.int .i64 t194, (.slice Ao195 t195.length co195)] 27 (0, 0))) ∧ Aside0 (Below w.heap.size w w'))
                         case atStart => exact ⟨(0), jr_, H', ⟨Nat.le_refl _⟩, ⟨by (try simp only [hl11_4]); (with_reducible repeat (first | apply Kd.R_alloc | apply Kd.R_drewN | apply Kd.R_drew)); exact HO_178001.out⟩, ⟨by (try simp only [hl11_4]); (with_reducible repeat (first | apply Kd.R_alloc | apply Kd.R_drewN | apply Kd.R_drew)); exact HO_194001.out⟩, ⟨by (try simp only [hl11_4]); (with_reducible repeat (first | apply Kd.R_alloc | apply Kd.R_drewN | apply Kd.R_drew)); exact HO_201001.out⟩, ⟨by (try simp only [hl11_4]); exact pk_ BK152.out⟩, ⟨by (try simp only [hl11_4]); exact pk_ BK153.out⟩, ⟨by (try simp only [hl11_4]); exact pk_ BK177.out⟩, ⟨by (try simp only [hl11_4]); exact pk_ BK193.out⟩, ⟨by (try simp only [hl11_4]); exact pk_ BK200.out⟩, ⟨bk_ HB.out⟩⟩
                         case round => as_aux_lemma =>
                          clear H'
                          (try clear c2); (try clear c82); (try clear c82b0); (try clear c121); (try clear c121b0); (try clear c122); (try clear c122b0); (try clear c124); (try clear c126); (try clear c126b0); (try clear p127); (try clear q127); (try clear c137); (try clear c137b0); (try clear p175); (try clear q175); (try clear c197); (try clear c253); (try clear hcz120_0); (try clear hcz120_1); (try clear hcz132_0); (try clear hcz132_1); (try clear hcz136_0); (try clear hcz136_1); (try clear hcz175_0); (try clear hcz175_1); (try clear hcz177_0); (try clear hcz177_1); (try clear hcz183_0); (try clear hcz183_1); (try clear hcz185_0); (try clear hcz185_1); (try clear hcz186_0); (try clear hcz186_1); (try clear hcz194_0); (try clear hcz194_1); (try clear hfz120_0); (try clear hfz120_1); (try clear hfz132_0); (try clear hfz132_1); (try clear hfz136_0); (try clear hfz136_1); (try clear hfz175_0); (try clear hfz175_1); (try clear hfz177_0); (try clear hfz177_1); (try clear hfz183_0); (try clear hfz183_1); (try clear hfz185_0); (try clear hfz185_1); (try clear hfz186_0); (try clear hfz186_1); (try clear hfz194_0); (try clear hfz194_1); (try clear hx127_0); (try clear hx175_0); (try clear p127); (try clear p175); (try clear q127); (try clear q175)
                          obtain ⟨x24_7, rfl, HA, HK7, HO_178001, HO_194001, HO_201001, BK152, BK153, BK177, BK193, BK200, HB⟩ := hrel
                          cases gk with
                          | zero => exact absurd HA.out (by simp [standstilllaw06_CounterNames.l3])
                          | succ k7 =>
                           have H := HA.out
                           clear HA
                           simp only [standstilllaw06_CounterNames.l3] at H
                           by_cases c254 : x24_7 < a0_0
                           ·rw [if_pos c254] at H
                            have c254b0 : decide (x24_7 < a0_0) = true := decide_eq_true c254
                            clear c254
                            by_cases c255 : 0 ≤ x24_7
                            ·rw [if_pos c255] at H
                             have c255b0 : decide (0 ≤ x24_7) = true := decide_eq_true c255
                             clear c255
                             by_cases c256 : x24_7 < (l2.length : Int)
                             ·rw [if_pos c256] at H
                              have c256b0 : decide (x24_7 < (l2.length : Int)) = true := decide_eq_true c256
                              clear c256
                              by_cases c257 : 0 ≤ (rd l2 x24_7)
                              ·rw [if_pos c257] at H
                               have c257b0 : decide (0 ≤ (rd l2 x24_7)) = true := decide_eq_true c257
                               clear c257
                               by_cases c258 : (rd l2 x24_7) < (t195.length : Int)
                               ·rw [if_pos c258] at H
                                have c258b0 : decide ((rd l2 x24_7) < (t195.length : Int)) = true := decide_eq_true c258
                                clear c258
                                by_cases c259 : x24_7 < (t188.length : Int)
                                ·rw [if_pos c259] at H
                                 have c259b0 : decide (x24_7 < (t188.length : Int)) = true := decide_eq_true c259
                                 clear c259
                                 by_cases c260 : (rd t195 (rd l2 x24_7)) = (rd t188 x24_7)
                                 ·rw [if_pos c260] at H
                                  have c260b0 : ((rd t195 (rd l2 x24_7)) == (rd t188 x24_7)) = true := beq_iff_eq.mpr c260
                                  have c260b1 : ((rd t195 (rd l2 x24_7)) != (rd t188 x24_7)) = false := bne_eq_false_iff_eq.mpr c260
                                  clear c260
                                  have H' := Aside0.mk H
                                  clear H
                                  have hnb261 := NB152_153.out
                                  have hnc261 := NB153_152.out
                                  have hnb262 := NB152_177.out
                                  have hnc262 := NB177_152.out
                                  have hnb263 := NB152_193.out
                                  have hnc263 := NB193_152.out
                                  have hnb264 := NB152_200.out
                                  have hnc264 := NB200_152.out
                                  have hcz265_0 : wr.cell? ⟨gb152, 0, none⟩ = some (.int .i64 a0_0) := (blk_cell BK152.out 0).trans rfl
                                  have hcz265_1 : wr.cell? ⟨gb152, 1, none⟩ = some (.slice A0_1 l0_1.length c0_1) := (blk_cell BK152.out 1).trans rfl
                                  have hfz265_0 := blk_frozen BK152.out 0
                                  have hfz265_1 := blk_frozen BK152.out 1
                                  try go_wp2
                                  have n0_ := A_ (Kd.R_drew HO_178001.out)
                                  have n1_ := A_ (Kd.R_drew HO_194001.out)
                                  have n2_ := A_ (Kd.R_drew HO_201001.out)
                                  have n3_ := A_ (blk_drew BK152.out)
                                  have n4_ := A_ (blk_drew BK153.out)
                                  have n5_ := A_ (blk_drew BK177.out)
                                  have n6_ := A_ (blk_drew BK193.out)
                                  have n7_ := A_ (blk_drew BK200.out)
                                  have n8_ := A_ (below_drew1 HB.out)
                                  clear HO_178001 HO_194001 HO_201001 BK152 BK153 BK177 BK193 BK200 HB
                                  have HO_178001 := n0_
                                  have HO_194001 := n1_
                                  have HO_201001 := n2_
                                  have BK152 := n3_
                                  have BK153 := n4_
                                  have BK177 := n5_
                                  have BK193 := n6_
                                  have BK200 := n7_
                                  have HB := n8_
                                  clear n0_ n1_ n2_ n3_ n4_ n5_ n6_ n7_ n8_
                                  have p203 : 0 ≤ (x24_7 : Int) := od_
                                  have q203 : x24_7 < (l2.length : Int) := od_
                                  obtain ⟨ad203, e203, hx203_0⟩ := Kd.at_int HR2.out x24_7 p203 q203
                                  have hw203_0 := hx203_0
                                  cases e203
                                  replace hx203_0 := lf_ HB.out hx203_0
                                  replace p203 := eq_true p203
                                  replace q203 := eq_true q203
                                  have p204 : 0 ≤ ((rd l2 x24_7) : Int) := od_
                                  have q204 : (rd l2 x24_7) < (t195.length : Int) := od_
                                  obtain ⟨ad204, e204, hx204_0⟩ := Kd.at_int (Kd.R_reads' HO_201001.out).2.2 (rd l2 x24_7) p204 q204
                                  cases e204
                                  replace p204 := eq_true p204
                                  replace q204 := eq_true q204
                                  have p205 : 0 ≤ (x24_7 : Int) := od_
                                  have q205 : x24_7 < (t188.length : Int) := od_
                                  obtain ⟨ad205, e205, hx205_0⟩ := Kd.at_int (Kd.R_reads' HO_194001.out).2.2 x24_7 p205 q205
                                  cases e205
                                  replace p205 := eq_true p205
                                  replace q205 := eq_true q205
                                  refine start_ (n := 14) (S := fun w' => w'.cell? ⟨gb200, 0, none⟩ = some (.int .i64 t194) ∧ w'.cell? ⟨gb200, 1, none⟩ = some (.slice (some ad204) t195.length co195) ∧ w'.cell? ⟨gb193, 0, none⟩ = some (.int .i64 t187) ∧ w'.cell? ⟨gb193, 1, none⟩ = some (.slice (some ad205) t188.length co184) ∧ w'.cell? (ad203.add (x24_7).toNat) = some (.int .i64 (rd l2 x24_7)) ∧ w'.cell? (ad204.add ((rd l2 x24_7)).toNat) = some (.int .i64 (rd t195 (rd l2 x24_7))) ∧ w'.cell? (ad205.add (x24_7).toNat) = some (.int .i64 (rd t188 x24_7))) (ds := []) #[false, false, false, false, false, false, false, false, false, false, false, false, false, false] (by kernel_rfl) rfl rfl ⟨(blk_cell BK200.out 0).trans rfl, (blk_cell BK200.out 1).trans rfl, (blk_cell BK193.out 0).trans rfl, (blk_cell BK193.out 1).trans rfl, ((HB.out.cell (World.block_lt_of_cell? w _ hw203_0)).trans hw203_0), hx204_0, hx205_0⟩ (fun hHeld => ?_); refine with_tabW standstilllaw06_CounterNames.tab33 standstilllaw06_CounterNames.bits33 (fun HT_ HW_ => ?_)
                                  generalize wr.drew = w266 at HO_178001 HO_194001 HO_201001 BK152 BK153 BK177 BK193 BK200 HB hx203_0 hx204_0 hx205_0 hHeld ⊢
                                  refine pure_ (i := 0) (N := some 231) (v := ?_) (a' := ?_) #[true, false, false, false, false, false, false, false, false, false, false, false, false, false] rfl rfl (any_of HT_.out (by kernel_rfl)) (fun _ _ _ h => h) (Or.inl ⟨by rfl, ?_⟩) ?_ ?_
                                  rotate_left
                                  ·intro w'
                                   go_simp
                                   with_reducible rfl
                                  rotate_left
                                  ·simp only [Act.put, sa_, sz_, ss_, i64_w, i32_w]
                                   rfl
                                  refine pure_ (i := 2) (N := some 233) (v := ?_) (a' := ?_) #[true, false, true, false, false, false, false, false, false, false, false, false, false, false] rfl rfl (any_of HT_.out (by kernel_rfl)) (fun _ _ _ h => h) (Or.inl ⟨by rfl, ?_⟩) ?_ ?_
                                  rotate_left
                                  ·intro w'
                                   go_simp
                                   with_reducible rfl
                                  rotate_left
                                  ·simp only [Act.put, sa_, sz_, ss_, i64_w, i32_w]
                                   rfl
                                  refine pure_ (i := 3) (N := some 234) (v := ?_) (a' := ?_) #[true, false, true, true, false, false, false, false, false, false, false, false, false, false] rfl rfl (any_of HT_.out (by kernel_rfl)) (fun _ _ _ h => h) (Or.inl ⟨by rfl, ?_⟩) ?_ ?_
                                  rotate_left
                                  ·intro w'
                                   go_simp
                                   with_reducible rfl
                                  rotate_left
                                  ·simp only [Act.put, sa_, sz_, ss_, i64_w, i32_w]
                                   rfl
                                  refine pure_ (i := 4) (N := some 235) (v := ?_) (a' := ?_) #[true, false, true, true, true, false, false, false, false, false, false, false, false, false] rfl rfl (any_of HT_.out (by kernel_rfl)) (fun _ _ _ h => h) (Or.inl ⟨by rfl, ?_⟩) ?_ ?_
                                  rotate_left
                                  ·intro w'
                                   go_simp
                                   with_reducible rfl
                                  rotate_left
                                  ·simp only [Act.put, sa_, sz_, ss_, i64_w, i32_w]
                                   rfl
                                  refine pure_ (i := 8) (N := some 239) (v := ?_) (a' := ?_) #[true, false, true, true, true, false, false, false, true, false, false, false, false, false] rfl rfl (any_of HT_.out (by kernel_rfl)) (fun _ _ _ h => h) (Or.inl ⟨by rfl, ?_⟩) ?_ ?_
                                  rotate_left
                                  ·intro w'
                                   go_simp
                                   with_reducible rfl
                                  rotate_left
                                  ·simp only [Act.put, sa_, sz_, ss_, i64_w, i32_w]
                                   rfl
                                  refine pure_ (i := 10) (N := some 241) (v := ?_) (a' := ?_) #[true, false, true, true, true, false, false, false, true, false, true, false, false, false] rfl rfl (any_of HT_.out (by kernel_rfl)) (fun _ _ _ h => h) (Or.inl ⟨by rfl, ?_⟩) ?_ ?_
                                  rotate_left
                                  ·intro w'
                                   go_simp
                                   with_reducible rfl
                                  rotate_left
                                  ·simp only [Act.put, sa_, sz_, ss_, i64_w, i32_w]
                                   rfl
                                  refine take_ (i := 1) (N := some 232) (v := ?_) (a' := ?_) #[true, true, true, true, true, false, false, false, true, false, true, false, false, false] rfl rfl (take_ofW HT_.out HW_.out (by kernel_rfl)) (fun _ _ _ h => h) (Or.inl ⟨by rfl, ?_⟩) hHeld ?_ ?_
                                  rotate_left
                                  ·rintro w' ⟨s0, s1, s2, s3, s4, s5, s6⟩
                                   go_simp
                                   with_reducible rfl
                                  rotate_left
                                  ·simp only [Act.put, sa_, sz_, ss_, i64_w, i32_w]
                                   rfl
                                  refine take_ (i := 5) (N := some 236) (v := ?_) (a' := ?_) #[true, true, true, true, true, true, false, false, true, false, true, false, false, false] rfl rfl (take_ofW HT_.out HW_.out (by kernel_rfl)) (fun _ _ _ h => h) (Or.inl ⟨by rfl, ?_⟩) hHeld ?_ ?_
                                  rotate_left
                                  ·rintro w' ⟨s0, s1, s2, s3, s4, s5, s6⟩
                                   go_simp
                                   with_reducible rfl
                                  rotate_left
                                  ·simp only [Act.put, sa_, sz_, ss_, i64_w, i32_w]
                                   rfl
                                  refine pure_ (i := 6) (N := some 237) (v := ?_) (a' := ?_) #[true, true, true, true, true, true, true, false, true, false, true, false, false, false] rfl rfl (any_of HT_.out (by kernel_rfl)) (fun _ _ _ h => h) (Or.inl ⟨by rfl, ?_⟩) ?_ ?_
                                  rotate_left
                                  ·intro w'
                                   go_simp
                                   with_reducible rfl
                                  rotate_left
                                  ·simp only [Act.put, sa_, sz_, ss_, i64_w, i32_w]
                                   rfl
                                  refine take_ (i := 7) (N := some 238) (v := ?_) (a' := ?_) #[true, true, true, true, true, true, true, true, true, false, true, false, false, false] rfl rfl (take_ofW HT_.out HW_.out (by kernel_rfl)) (fun _ _ _ h => h) (Or.inl ⟨by rfl, ?_⟩) hHeld ?_ ?_
                                  rotate_left
                                  ·rintro w' ⟨s0, s1, s2, s3, s4, s5, s6⟩
                                   go_simp
                                   with_reducible rfl
                                  rotate_left
                                  ·simp only [Act.put, sa_, sz_, ss_, i64_w, i32_w]
                                   rfl
                                  refine take_ (i := 9) (N := some 240) (v := ?_) (a' := ?_) #[true, true, true, true, true, true, true, true, true, true, true, false, false, false] rfl rfl (take_ofW HT_.out HW_.out (by kernel_rfl)) (fun _ _ _ h => h) (Or.inl ⟨by rfl, ?_⟩) hHeld ?_ ?_
                                  rotate_left
                                  ·rintro w' ⟨s0, s1, s2, s3, s4, s5, s6⟩
                                   go_simp
                                   with_reducible rfl
                                  rotate_left
                                  ·simp only [Act.put, sa_, sz_, ss_, i64_w, i32_w]
                                   rfl
                                  refine pure_ (i := 11) (N := some 242) (v := ?_) (a' := ?_) #[true, true, true, true, true, true, true, true, true, true, true, true, false, false] rfl rfl (any_of HT_.out (by kernel_rfl)) (fun _ _ _ h => h) (Or.inl ⟨by rfl, ?_⟩) ?_ ?_
                                  rotate_left
                                  ·intro w'
                                   go_simp
                                   with_reducible rfl
                                  rotate_left
                                  ·simp only [Act.put, sa_, sz_, ss_, i64_w, i32_w]
                                   rfl
                                  refine take_ (i := 12) (N := some 243) (v := ?_) (a' := ?_) #[true, true, true, true, true, true, true, true, true, true, true, true, true, false] rfl rfl (take_ofW HT_.out HW_.out (by kernel_rfl)) (fun _ _ _ h => h) (Or.inl ⟨by rfl, ?_⟩) hHeld ?_ ?_
                                  rotate_left
                                  ·rintro w' ⟨s0, s1, s2, s3, s4, s5, s6⟩
                                   go_simp
                                   with_reducible rfl
                                  rotate_left
                                  ·simp only [Act.put, sa_, sz_, ss_, i64_w, i32_w]
                                   rfl
                                  refine pure_ (i := 13) (N := some 244) (v := ?_) (a' := ?_) #[true, true, true, true, true, true, true, true, true, true, true, true, true, true] rfl rfl (any_of HT_.out (by kernel_rfl)) (fun _ _ _ h => h) (Or.inl ⟨by rfl, ?_⟩) ?_ ?_
                                  rotate_left
                                  ·intro w'
                                   go_simp
                                   with_reducible rfl
                                  rotate_left
                                  ·simp only [Act.put, sa_, sz_, ss_, i64_w, i32_w]
                                   rfl
                                  refine done_ (done_of HT_.out (by kernel_rfl)) ?_
                                  try go_wp2
                                  go_roundg k7
                                  case measure => have := HJ5.out; have := HK2.out; have := HK3.out; have := HK4.out; have := HJ171.out; have := HJ200.out; have := HK7.out; omega
                                  case rel => exact ⟨(wrap64 (x24_7 + 1)), jr_, H', ⟨by have := HJ5.out; have := HK2.out; have := HK3.out; have := HK4.out; have := HJ171.out; have := HJ200.out; have := HK7.out; omega⟩, ⟨by (try simp only [hl11_4]); (with_reducible repeat (first | apply Kd.R_alloc | apply Kd.R_drewN | apply Kd.R_drew)); exact HO_178001.out⟩, ⟨by (try simp only [hl11_4]); (with_reducible repeat (first | apply Kd.R_alloc | apply Kd.R_drewN | apply Kd.R_drew)); exact HO_194001.out⟩, ⟨by (try simp only [hl11_4]); (with_reducible repeat (first | apply Kd.R_alloc | apply Kd.R_drewN | apply Kd.R_drew)); exact HO_201001.out⟩, ⟨by (try simp only [hl11_4]); exact pk_ BK152.out⟩, ⟨by (try simp only [hl11_4]); exact pk_ BK153.out⟩, ⟨by (try simp only [hl11_4]); exact pk_ BK177.out⟩, ⟨by (try simp only [hl11_4]); exact pk_ BK193.out⟩, ⟨by (try simp only [hl11_4]); exact pk_ BK200.out⟩, ⟨bk_ HB.out⟩⟩
                                 ·rw [if_neg c260] at H
                                  have c260b0 : ((rd t195 (rd l2 x24_7)) == (rd t188 x24_7)) = false := beq_eq_false_iff_ne.mpr c260
                                  have c260b1 : ((rd t195 (rd l2 x24_7)) != (rd t188 x24_7)) = true := bne_iff_ne.mpr c260
                                  obtain rfl := Option.some.inj H
                                  have hnb267 := NB152_153.out
                                  have hnc267 := NB153_152.out
                                  have hnb268 := NB152_177.out
                                  have hnc268 := NB177_152.out
                                  have hnb269 := NB152_193.out
                                  have hnc269 := NB193_152.out
                                  have hnb270 := NB152_200.out
                                  have hnc270 := NB200_152.out
                                  have hcz271_0 : wr.cell? ⟨gb152, 0, none⟩ = some (.int .i64 a0_0) := (blk_cell BK152.out 0).trans rfl
                                  have hcz271_1 : wr.cell? ⟨gb152, 1, none⟩ = some (.slice A0_1 l0_1.length c0_1) := (blk_cell BK152.out 1).trans rfl
                                  have hfz271_0 := blk_frozen BK152.out 0
                                  have hfz271_1 := blk_frozen BK152.out 1
                                  try go_wp2
                                  have n0_ := A_ (Kd.R_drew HO_178001.out)
                                  have n1_ := A_ (Kd.R_drew HO_194001.out)
                                  have n2_ := A_ (Kd.R_drew HO_201001.out)
                                  have n3_ := A_ (blk_drew BK152.out)
                                  have n4_ := A_ (blk_drew BK153.out)
                                  have n5_ := A_ (blk_drew BK177.out)
                                  have n6_ := A_ (blk_drew BK193.out)
                                  have n7_ := A_ (blk_drew BK200.out)
                                  have n8_ := A_ (below_drew1 HB.out)
                                  clear HO_178001 HO_194001 HO_201001 BK152 BK153 BK177 BK193 BK200 HB
                                  have HO_178001 := n0_
                                  have HO_194001 := n1_
                                  have HO_201001 := n2_
                                  have BK152 := n3_
                                  have BK153 := n4_
                                  have BK177 := n5_
                                  have BK193 := n6_
                                  have BK200 := n7_
                                  have HB := n8_
                                  clear n0_ n1_ n2_ n3_ n4_ n5_ n6_ n7_ n8_
                                  have p203 : 0 ≤ (x24_7 : Int) := od_
                                  have q203 : x24_7 < (l2.length : Int) := od_
                                  obtain ⟨ad203, e203, hx203_0⟩ := Kd.at_int HR2.out x24_7 p203 q203
                                  have hw203_0 := hx203_0
                                  cases e203
                                  replace hx203_0 := lf_ HB.out hx203_0
                                  replace p203 := eq_true p203
                                  replace q203 := eq_true q203
                                  have p204 : 0 ≤ ((rd l2 x24_7) : Int) := od_
                                  have q204 : (rd l2 x24_7) < (t195.length : Int) := od_
                                  obtain ⟨ad204, e204, hx204_0⟩ := Kd.at_int (Kd.R_reads' HO_201001.out).2.2 (rd l2 x24_7) p204 q204
                                  cases e204
                                  replace p204 := eq_true p204
                                  replace q204 := eq_true q204
                                  have p205 : 0 ≤ (x24_7 : Int) := od_
                                  have q205 : x24_7 < (t188.length : Int) := od_
                                  obtain ⟨ad205, e205, hx205_0⟩ := Kd.at_int (Kd.R_reads' HO_194001.out).2.2 x24_7 p205 q205
                                  cases e205
                                  replace p205 := eq_true p205
                                  replace q205 := eq_true q205
                                  refine start_ (n := 14) (S := fun w' => w'.cell? ⟨gb200, 0, none⟩ = some (.int .i64 t194) ∧ w'.cell? ⟨gb200, 1, none⟩ = some (.slice (some ad204) t195.length co195) ∧ w'.cell? ⟨gb193, 0, none⟩ = some (.int .i64 t187) ∧ w'.cell? ⟨gb193, 1, none⟩ = some (.slice (some ad205) t188.length co184) ∧ w'.cell? (ad203.add (x24_7).toNat) = some (.int .i64 (rd l2 x24_7)) ∧ w'.cell? (ad204.add ((rd l2 x24_7)).toNat) = some (.int .i64 (rd t195 (rd l2 x24_7))) ∧ w'.cell? (ad205.add (x24_7).toNat) = some (.int .i64 (rd t188 x24_7))) (ds := []) #[false, false, false, false, false, false, false, false, false, false, false, false, false, false] (by kernel_rfl) rfl rfl ⟨(blk_cell BK200.out 0).trans rfl, (blk_cell BK200.out 1).trans rfl, (blk_cell BK193.out 0).trans rfl, (blk_cell BK193.out 1).trans rfl, ((HB.out.cell (World.block_lt_of_cell? w _ hw203_0)).trans hw203_0), hx204_0, hx205_0⟩ (fun hHeld => ?_); refine with_tabW standstilllaw06_CounterNames.tab33 standstilllaw06_CounterNames.bits33 (fun HT_ HW_ => ?_)
                                  generalize wr.drew = w272 at HO_178001 HO_194001 HO_201001 BK152 BK153 BK177 BK193 BK200 HB hx203_0 hx204_0 hx205_0 hHeld ⊢
                                  refine pure_ (i := 0) (N := some 231) (v := ?_) (a' := ?_) #[true, false, false, false, false, false, false, false, false, false, false, false, false, false] rfl rfl (any_of HT_.out (by kernel_rfl)) (fun _ _ _ h => h) (Or.inl ⟨by rfl, ?_⟩) ?_ ?_
                                  rotate_left
                                  ·intro w'
                                   go_simp
                                   with_reducible rfl
                                  rotate_left
                                  ·simp only [Act.put, sa_, sz_, ss_, i64_w, i32_w]
                                   rfl
                                  refine pure_ (i := 2) (N := some 233) (v := ?_) (a' := ?_) #[true, false, true, false, false, false, false, false, false, false, false, false, false, false] rfl rfl (any_of HT_.out (by kernel_rfl)) (fun _ _ _ h => h) (Or.inl ⟨by rfl, ?_⟩) ?_ ?_
                                  rotate_left
                                  ·intro w'
                                   go_simp
                                   with_reducible rfl
                                  rotate_left
                                  ·simp only [Act.put, sa_, sz_, ss_, i64_w, i32_w]
                                   rfl
                                  refine pure_ (i := 3) (N := some 234) (v := ?_) (a' := ?_) #[true, false, true, true, false, false, false, false, false, false, false, false, false, false] rfl rfl (any_of HT_.out (by kernel_rfl)) (fun _ _ _ h => h) (Or.inl ⟨by rfl, ?_⟩) ?_ ?_
                                  rotate_left
                                  ·intro w'
                                   go_simp
                                   with_reducible rfl
                                  rotate_left
                                  ·simp only [Act.put, sa_, sz_, ss_, i64_w, i32_w]
                                   rfl
                                  refine pure_ (i := 4) (N := some 235) (v := ?_) (a' := ?_) #[true, false, true, true, true, false, false, false, false, false, false, false, false, false] rfl rfl (any_of HT_.out (by kernel_rfl)) (fun _ _ _ h => h) (Or.inl ⟨by rfl, ?_⟩) ?_ ?_
                                  rotate_left
                                  ·intro w'
                                   go_simp
                                   with_reducible rfl
                                  rotate_left
                                  ·simp only [Act.put, sa_, sz_, ss_, i64_w, i32_w]
                                   rfl
                                  refine pure_ (i := 8) (N := some 239) (v := ?_) (a' := ?_) #[true, false, true, true, true, false, false, false, true, false, false, false, false, false] rfl rfl (any_of HT_.out (by kernel_rfl)) (fun _ _ _ h => h) (Or.inl ⟨by rfl, ?_⟩) ?_ ?_
                                  rotate_left
                                  ·intro w'
                                   go_simp
                                   with_reducible rfl
                                  rotate_left
                                  ·simp only [Act.put, sa_, sz_, ss_, i64_w, i32_w]
                                   rfl
                                  refine pure_ (i := 10) (N := some 241) (v := ?_) (a' := ?_) #[true, false, true, true, true, false, false, false, true, false, true, false, false, false] rfl rfl (any_of HT_.out (by kernel_rfl)) (fun _ _ _ h => h) (Or.inl ⟨by rfl, ?_⟩) ?_ ?_
                                  rotate_left
                                  ·intro w'
                                   go_simp
                                   with_reducible rfl
                                  rotate_left
                                  ·simp only [Act.put, sa_, sz_, ss_, i64_w, i32_w]
                                   rfl
                                  refine take_ (i := 1) (N := some 232) (v := ?_) (a' := ?_) #[true, true, true, true, true, false, false, false, true, false, true, false, false, false] rfl rfl (take_ofW HT_.out HW_.out (by kernel_rfl)) (fun _ _ _ h => h) (Or.inl ⟨by rfl, ?_⟩) hHeld ?_ ?_
                                  rotate_left
                                  ·rintro w' ⟨s0, s1, s2, s3, s4, s5, s6⟩
                                   go_simp
                                   with_reducible rfl
                                  rotate_left
                                  ·simp only [Act.put, sa_, sz_, ss_, i64_w, i32_w]
                                   rfl
                                  refine take_ (i := 5) (N := some 236) (v := ?_) (a' := ?_) #[true, true, true, true, true, true, false, false, true, false, true, false, false, false] rfl rfl (take_ofW HT_.out HW_.out (by kernel_rfl)) (fun _ _ _ h => h) (Or.inl ⟨by rfl, ?_⟩) hHeld ?_ ?_
                                  rotate_left
                                  ·rintro w' ⟨s0, s1, s2, s3, s4, s5, s6⟩
                                   go_simp
                                   with_reducible rfl
                                  rotate_left
                                  ·simp only [Act.put, sa_, sz_, ss_, i64_w, i32_w]
                                   rfl
                                  refine pure_ (i := 6) (N := some 237) (v := ?_) (a' := ?_) #[true, true, true, true, true, true, true, false, true, false, true, false, false, false] rfl rfl (any_of HT_.out (by kernel_rfl)) (fun _ _ _ h => h) (Or.inl ⟨by rfl, ?_⟩) ?_ ?_
                                  rotate_left
                                  ·intro w'
                                   go_simp
                                   with_reducible rfl
                                  rotate_left
                                  ·simp only [Act.put, sa_, sz_, ss_, i64_w, i32_w]
                                   rfl
                                  refine take_ (i := 7) (N := some 238) (v := ?_) (a' := ?_) #[true, true, true, true, true, true, true, true, true, false, true, false, false, false] rfl rfl (take_ofW HT_.out HW_.out (by kernel_rfl)) (fun _ _ _ h => h) (Or.inl ⟨by rfl, ?_⟩) hHeld ?_ ?_
                                  rotate_left
                                  ·rintro w' ⟨s0, s1, s2, s3, s4, s5, s6⟩
                                   go_simp
                                   with_reducible rfl
                                  rotate_left
                                  ·simp only [Act.put, sa_, sz_, ss_, i64_w, i32_w]
                                   rfl
                                  refine take_ (i := 9) (N := some 240) (v := ?_) (a' := ?_) #[true, true, true, true, true, true, true, true, true, true, true, false, false, false] rfl rfl (take_ofW HT_.out HW_.out (by kernel_rfl)) (fun _ _ _ h => h) (Or.inl ⟨by rfl, ?_⟩) hHeld ?_ ?_
                                  rotate_left
                                  ·rintro w' ⟨s0, s1, s2, s3, s4, s5, s6⟩
                                   go_simp
                                   with_reducible rfl
                                  rotate_left
                                  ·simp only [Act.put, sa_, sz_, ss_, i64_w, i32_w]
                                   rfl
                                  refine pure_ (i := 11) (N := some 242) (v := ?_) (a' := ?_) #[true, true, true, true, true, true, true, true, true, true, true, true, false, false] rfl rfl (any_of HT_.out (by kernel_rfl)) (fun _ _ _ h => h) (Or.inl ⟨by rfl, ?_⟩) ?_ ?_
                                  rotate_left
                                  ·intro w'
                                   go_simp
                                   with_reducible rfl
                                  rotate_left
                                  ·simp only [Act.put, sa_, sz_, ss_, i64_w, i32_w]
                                   rfl
                                  refine take_ (i := 12) (N := some 243) (v := ?_) (a' := ?_) #[true, true, true, true, true, true, true, true, true, true, true, true, true, false] rfl rfl (take_ofW HT_.out HW_.out (by kernel_rfl)) (fun _ _ _ h => h) (Or.inl ⟨by rfl, ?_⟩) hHeld ?_ ?_
                                  rotate_left
                                  ·rintro w' ⟨s0, s1, s2, s3, s4, s5, s6⟩
                                   go_simp
                                   with_reducible rfl
                                  rotate_left
                                  ·simp only [Act.put, sa_, sz_, ss_, i64_w, i32_w]
                                   rfl
                                  refine pure_ (i := 13) (N := some 244) (v := ?_) (a' := ?_) #[true, true, true, true, true, true, true, true, true, true, true, true, true, true] rfl rfl (any_of HT_.out (by kernel_rfl)) (fun _ _ _ h => h) (Or.inl ⟨by rfl, ?_⟩) ?_ ?_
                                  rotate_left
                                  ·intro w'
                                   go_simp
                                   with_reducible rfl
                                  rotate_left
                                  ·simp only [Act.put, sa_, sz_, ss_, i64_w, i32_w]
                                   rfl
                                  refine done_ (done_of HT_.out (by kernel_rfl)) ?_
                                  try go_wp2
                                  go_ret
                                  exact ⟨by first | rfl | (simp [errW_none, errW_some] <;> rfl) | (simp [*, errW_none, errW_some] <;> rfl), bk_ HB.out⟩
                                ·rw [if_neg c259] at H
                                 exact absurd H (by simp)
                               ·rw [if_neg c258] at H
                                exact absurd H (by simp)
                              ·rw [if_neg c257] at H
                               exact absurd H (by simp)
                             ·rw [if_neg c256] at H
                              exact absurd H (by simp)
                            ·rw [if_neg c255] at H
                             exact absurd H (by simp)
                           ·rw [if_neg c254] at H
                            have c254b0 : decide (x24_7 < a0_0) = false := decide_eq_false c254
                            clear c254
                            replace H := Option.bind_eq_some_iff.mp H
                            obtain ⟨t206, A2730, H⟩ := H
                            replace H : (some t206) = some r := H
                            have A273 := Aside0.mk A2730
                            clear A2730
                            obtain rfl := Option.some.inj H
                            have hnb274 := NB152_153.out
                            have hnc274 := NB153_152.out
                            have hnb275 := NB152_177.out
                            have hnc275 := NB177_152.out
                            have hnb276 := NB152_193.out
                            have hnc276 := NB193_152.out
                            have hnb277 := NB152_200.out
                            have hnc277 := NB200_152.out
                            have hcz278_0 : wr.cell? ⟨gb152, 0, none⟩ = some (.int .i64 a0_0) := (blk_cell BK152.out 0).trans rfl
                            have hcz278_1 : wr.cell? ⟨gb152, 1, none⟩ = some (.slice A0_1 l0_1.length c0_1) := (blk_cell BK152.out 1).trans rfl
                            have hfz278_0 := blk_frozen BK152.out 0
                            have hfz278_1 := blk_frozen BK152.out 1
                            go_wp2_with (first | ((with_reducible refine gate_callee (f := 10) rfl ?_); refine goesL_ (some 245) rfl rfl Try.func10 (by kernel_rfl) rfl #[] rfl gl_ ?_; (with_reducible refine (standstilllaw06_awake.calls k7  t206 _ A273.out).mono ?_); rintro e w279 ⟨rfl, hb⟩; refine ⟨_, rfl, ?_⟩; have n0_ := A_ (Kd.R_below (rk_ HO_178001.out) hb); have n1_ := A_ (Kd.R_below (rk_ HO_194001.out) hb); have n2_ := A_ (Kd.R_below (rk_ HO_201001.out) hb); have n3_ := A_ (blk_below (pk_ BK152.out) hb); have n4_ := A_ (blk_below (pk_ BK153.out) hb); have n5_ := A_ (blk_below (pk_ BK177.out) hb); have n6_ := A_ (blk_below (pk_ BK193.out) hb); have n7_ := A_ (blk_below (pk_ BK200.out) hb); have n8_ := A_ (below_step (bk_ HB.out) hb); clear HO_178001 HO_194001 HO_201001 BK152 BK153 BK177 BK193 BK200 HB; have HO_178001 := n0_; have HO_194001 := n1_; have HO_201001 := n2_; have BK152 := n3_; have BK153 := n4_; have BK177 := n5_; have BK193 := n6_; have BK200 := n7_; have HB := n8_; clear n0_ n1_ n2_ n3_ n4_ n5_ n6_ n7_ n8_; (try clear hb); (try clear hb2); (try clear hk); (try clear hi)))
                            go_ret
                            exact ⟨by first | rfl | (simp [errW_none, errW_some] <;> rfl) | (simp [*, errW_none, errW_some] <;> rfl), bk_ HB.out⟩
               ·rw [if_neg c126] at H
                exact absurd H (by simp)
             ·rw [if_neg c122] at H
              exact absurd H (by simp)
            ·rw [if_neg c121] at H
             exact absurd H (by simp)
      ·rw [if_neg c74] at H
       exact absurd H (by simp)
     ·rw [if_neg c73] at H
      exact absurd H (by simp)
    ·rw [if_neg c72] at H
     exact absurd H (by simp)

/-- THE ONE PURE STATEMENT of standstilllaw06_CounterNames. -/
def standstilllaw06_CounterNames.Pure : Prop := ∀ (a0_0 : Int) (l0_1 : List (S33)) (a1_0 : Int) (l1_1 : List Int) (l2 : List Int) (a3 : Int) (a4 : Int), ((Lit.int .i64 a0_0).wf = true) → (l0_1.length * 32 ≤ 140737488351232 ∧ ∀ y_ ∈ l0_1, inv33 y_) → ((Lit.int .i64 a1_0).wf = true) → (l1_1.length * 8 ≤ 140737488351232 ∧ ∀ y_ ∈ l1_1, (Lit.int .i64 y_).wf = true) → (l2.length * 8 ≤ 140737488351232 ∧ ∀ y_ ∈ l2, (Lit.int .i64 y_).wf = true) → ((Lit.int .i64 a3).wf = true) → ((Lit.int .u16 a4).wf = true) → ∃ k, standstilllaw06_CounterNames.f k a0_0 l0_1 a1_0 l1_1 l2 a3 a4 = some true

end Go.Proofs.Ytkekehpfkfadfaa.PCounterNames
