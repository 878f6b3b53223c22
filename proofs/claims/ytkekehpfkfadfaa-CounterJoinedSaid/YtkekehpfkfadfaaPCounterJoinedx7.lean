-- out of a turned copy of the print, by a program of this session; Lean checks it
import Derived.Test.YtkekehpfkfadfaaPCounterJoinedx0
import Derived.Test.YtkekehpfkfadfaaPCounterJoinedx2
import Derived.Test.YtkekehpfkfadfaaPCounterJoinedx4
import Derived.Test.YtkekehpfkfadfaaPCounterJoinedx5
import Derived.Test.YtkekehpfkfadfaaPCounterJoinedx6
namespace Go.Proofs.Ytkekehpfkfadfaa.PCounterJoined
open Go.RowKit Go.Proofs.YtkekehpfkfadfaaW.PrintWords Go.Proofs.YtkekehpfkfadfaaW.PrintLast Go.Proofs.YtkekehpfkfadfaaW.PrintMore
attribute [local go_sem] max2_int min2_int max_two min_two max_three min_three max_four min_four   -- for this text's walks alone
set_option linter.unusedVariables false
set_option linter.unusedSimpArgs false

attribute [local go_sem] isSome_put_
/-! ### standstilllaw06_CounterJoined: function 5 -/
mutual
def standstilllaw06_CounterJoined.j0 : Nat → List Int → Bool → Int → List (S33) → Int → List (S33) → Option (Bool)
 | 0, _, _, _, _, _, _ => none
 | k + 1, x2, x47, x182000, x182001, x183000, x183001 => if x47 = true then ((standstilllaw06_awake.f k).bind fun t185 => (some t185)) else (if 0 ≤ (mx x182000 x183000) then (if (mx x182000 x183000 : Int).toNat ≤ 35184372088832 then (standstilllaw06_CounterJoined.l0 k x2 (mx x182000 x183000) (List.replicate (mx x182000 x183000 : Int).toNat 0) 0 x182000 x182001 x183000 x183001) else (none)) else (none))
def standstilllaw06_CounterJoined.j2 : Nat → List Int → Int → List (S33) → Int → List (S33) → Option (Bool)
 | 0, _, _, _, _, _ => none
 | k + 1, x8, x182000, x182001, x183000, x183001 => if 0 ≤ x182000 then (if x182000 ≤ (x8.length : Int) then ((counter_Run.f k x182000 x182001 0 (x8.take (x182000 : Int).toNat) 3000).bind fun bt195 => (if bt195.2.2.2 = 0 then ((standstillref06_Fits.f k x182000 x182001 bt195.1 bt195.2.1).bind fun t202 => (standstilllaw06_CounterJoined.j3 k x8 bt195.2.2.1 bt195.2.2.2 (!t202) x182000 x182001 x183000 x183001 bt195.1 bt195.2.1)) else (standstilllaw06_CounterJoined.j3 k x8 bt195.2.2.1 bt195.2.2.2 false x182000 x182001 x183000 x183001 bt195.1 bt195.2.1))) else (none)) else (none)
def standstilllaw06_CounterJoined.j3 : Nat → List Int → Int → Int → Bool → Int → List (S33) → Int → List (S33) → Int → List Int → Option (Bool)
 | 0, _, _, _, _, _, _, _, _, _, _ => none
 | k + 1, x8, x11, x12, x92, x182000, x182001, x183000, x183001, x202000, x202001 => if x92 = true then (none) else (if x12 = 0 then (if 0 ≤ x202000 then (if x202000 < (x182001.length : Int) then (if ((rd_T33 x182001 x202000).f0) = 2 then (if 0 < (x202001.length : Int) then (standstilllaw06_CounterJoined.j4 k x8 x11 (decide ((rd x202001 0) ≥ 1152921504606846976)) x182000 x182001 x183000 x183001 x202000 x202001) else (none)) else (standstilllaw06_CounterJoined.j4 k x8 x11 true x182000 x182001 x183000 x183001 x202000 x202001)) else (none)) else (none)) else (standstilllaw06_CounterJoined.j4 k x8 x11 true x182000 x182001 x183000 x183001 x202000 x202001))
def standstilllaw06_CounterJoined.j4 : Nat → List Int → Int → Bool → Int → List (S33) → Int → List (S33) → Int → List Int → Option (Bool)
 | 0, _, _, _, _, _, _, _, _, _ => none
 | k + 1, x8, x11, x111, x182000, x182001, x183000, x183001, x202000, x202001 => if x111 = true then ((standstilllaw06_awake.f k).bind fun t205 => (some t205)) else ((some (([] : List Int) : List Int)).bind fun y206 => (if y206.length + x202001.length < 17592186044416 then ((some (y206 ++ x202001 : List Int)).bind fun y209 => (if 0 ≤ x182000 then (if x182000 ≤ (x8.length : Int) then ((some (x8.drop (x182000 : Int).toNat : List Int)).bind fun y212 => (if y209.length + y212.length < 17592186044416 then ((some (y209 ++ y212 : List Int)).bind fun y216 => (if 0 ≤ x183000 then (if x183000 ≤ (y216.length : Int) then ((counter_Run.f k x183000 x183001 0 (y216.take (x183000 : Int).toNat) 3000).bind fun bt223 => (if bt223.2.2.2 = 0 then ((standstillref06_Fits.f k x183000 x183001 bt223.1 bt223.2.1).bind fun t230 => (standstilllaw06_CounterJoined.j5 k x8 x11 y216 bt223.2.2.1 bt223.2.2.2 (!t230) x182000 x182001 x183000 x183001 bt223.1 bt223.2.1)) else (standstilllaw06_CounterJoined.j5 k x8 x11 y216 bt223.2.2.1 bt223.2.2.2 false x182000 x182001 x183000 x183001 bt223.1 bt223.2.1))) else (none)) else (none))) else (none))) else (none)) else (none))) else (none)))
def standstilllaw06_CounterJoined.j5 : Nat → List Int → Int → List Int → Int → Int → Bool → Int → List (S33) → Int → List (S33) → Int → List Int → Option (Bool)
 | 0, _, _, _, _, _, _, _, _, _, _, _, _ => none
 | k + 1, x8, x11, x13, x15, x16, x140, x182000, x182001, x183000, x183001, x230000, x230001 => if x140 = true then (none) else (if x16 = 0 then (if 0 ≤ x230000 then (if x230000 < (x183001.length : Int) then (standstilllaw06_CounterJoined.j6 k x8 x11 x13 x15 (((rd_T33 x183001 x230000).f0) != 2) x182000 x182001 x183000 x183001 x230000 x230001) else (none)) else (none)) else (standstilllaw06_CounterJoined.j6 k x8 x11 x13 x15 true x182000 x182001 x183000 x183001 x230000 x230001))
def standstilllaw06_CounterJoined.j6 : Nat → List Int → Int → List Int → Int → Bool → Int → List (S33) → Int → List (S33) → Int → List Int → Option (Bool)
 | 0, _, _, _, _, _, _, _, _, _, _, _ => none
 | k + 1, x8, x11, x13, x15, x152, x182000, x182001, x183000, x183001, x230000, x230001 => if x152 = true then ((standstilllaw06_awake.f k).bind fun t232 => (some t232)) else ((counter_Join.f k x182000 x182001 x183000 x183001).bind fun bt233 => ((counter_Run.f k bt233.1 bt233.2.1 0 x8 10000).bind fun bt239 => ((some (([] : List Int) : List Int)).bind fun y246 => (if y246.length + x230001.length < 17592186044416 then ((some (y246 ++ x230001 : List Int)).bind fun y249 => (if 0 ≤ x183000 then (if x183000 ≤ (x13.length : Int) then ((some (x13.drop (x183000 : Int).toNat : List Int)).bind fun y252 => (if y249.length + y252.length < 17592186044416 then (if bt233.2.2 = 0 then (if bt239.2.2.2 = 0 then (if bt239.2.2.1 = (wrap64 ((wrap64 (x11 + x15)) + 2)) then (if bt239.1 ≥ 0 then (if bt239.1 < (bt233.2.1.length : Int) then (if 0 ≤ bt239.1 then (if ((rd_T33 bt233.2.1 bt239.1).f0) = 2 then ((standstillref06_SameCount.f k 0 (y249 ++ y252) 0 bt239.2.1).bind fun t260 => (if t260 = true then ((standstilllaw06_awake.f k).bind fun t261 => (some t261)) else (none))) else (none)) else (none)) else (none)) else (none)) else (none)) else (none)) else (none)) else (none))) else (none)) else (none))) else (none)))))
def standstilllaw06_CounterJoined.l0 : Nat → List Int → Int → List Int → Int → Int → List (S33) → Int → List (S33) → Option (Bool)
 | 0, _, _, _, _, _, _, _, _ => none
 | k + 1, x2, x7, x8, x9, x182000, x182001, x183000, x183001 => if x9 < x7 then (if x9 < (x2.length : Int) then (if 0 ≤ x9 then (if x9 < (x8.length : Int) then (standstilllaw06_CounterJoined.l0 k x2 x7 (x8.set (x9 : Int).toNat (rd x2 x9)) (wrap64 (x9 + 1)) x182000 x182001 x183000 x183001) else (none)) else (none)) else (standstilllaw06_CounterJoined.j2 k x8 x182000 x182001 x183000 x183001)) else (standstilllaw06_CounterJoined.j2 k x8 x182000 x182001 x183000 x183001)
end
def standstilllaw06_CounterJoined.f (k : Nat) (a0_0 : Int) (l0_1 : List (S33)) (a1_0 : Int) (l1_1 : List (S33)) (l2 : List Int) : Option (Bool) := if (l0_1.length : Int) > 900 then (standstilllaw06_CounterJoined.j0 k l2 true a0_0 l0_1 a1_0 l1_1) else (if (l1_1.length : Int) > 900 then (standstilllaw06_CounterJoined.j0 k l2 true a0_0 l0_1 a1_0 l1_1) else (if (l2.length : Int) > 100 then (standstilllaw06_CounterJoined.j0 k l2 true a0_0 l0_1 a1_0 l1_1) else ((standstillref06_Valid.f k a0_0 l0_1).bind fun t183 => (if t183 = true then ((standstillref06_Valid.f k a1_0 l1_1).bind fun t184 => (standstilllaw06_CounterJoined.j0 k l2 (!t184) a0_0 l0_1 a1_0 l1_1)) else (standstilllaw06_CounterJoined.j0 k l2 true a0_0 l0_1 a1_0 l1_1)))))
theorem standstilllaw06_CounterJoined.mono_l : ∀ k, (∀ y0 y1 y2 y3 y4 y5, LeO (standstilllaw06_CounterJoined.j0 k y0 y1 y2 y3 y4 y5) (standstilllaw06_CounterJoined.j0 (k + 1) y0 y1 y2 y3 y4 y5)) ∧ (∀ y0 y1 y2 y3 y4, LeO (standstilllaw06_CounterJoined.j2 k y0 y1 y2 y3 y4) (standstilllaw06_CounterJoined.j2 (k + 1) y0 y1 y2 y3 y4)) ∧ (∀ y0 y1 y2 y3 y4 y5 y6 y7 y8 y9, LeO (standstilllaw06_CounterJoined.j3 k y0 y1 y2 y3 y4 y5 y6 y7 y8 y9) (standstilllaw06_CounterJoined.j3 (k + 1) y0 y1 y2 y3 y4 y5 y6 y7 y8 y9)) ∧ (∀ y0 y1 y2 y3 y4 y5 y6 y7 y8, LeO (standstilllaw06_CounterJoined.j4 k y0 y1 y2 y3 y4 y5 y6 y7 y8) (standstilllaw06_CounterJoined.j4 (k + 1) y0 y1 y2 y3 y4 y5 y6 y7 y8)) ∧ (∀ y0 y1 y2 y3 y4 y5 y6 y7 y8 y9 y10 y11, LeO (standstilllaw06_CounterJoined.j5 k y0 y1 y2 y3 y4 y5 y6 y7 y8 y9 y10 y11) (standstilllaw06_CounterJoined.j5 (k + 1) y0 y1 y2 y3 y4 y5 y6 y7 y8 y9 y10 y11)) ∧ (∀ y0 y1 y2 y3 y4 y5 y6 y7 y8 y9 y10, LeO (standstilllaw06_CounterJoined.j6 k y0 y1 y2 y3 y4 y5 y6 y7 y8 y9 y10) (standstilllaw06_CounterJoined.j6 (k + 1) y0 y1 y2 y3 y4 y5 y6 y7 y8 y9 y10)) ∧ (∀ y0 y1 y2 y3 y4 y5 y6 y7, LeO (standstilllaw06_CounterJoined.l0 k y0 y1 y2 y3 y4 y5 y6 y7) (standstilllaw06_CounterJoined.l0 (k + 1) y0 y1 y2 y3 y4 y5 y6 y7))
 | 0 => ⟨fun _ _ _ _ _ _ r h => by simp [standstilllaw06_CounterJoined.j0] at h, fun _ _ _ _ _ r h => by simp [standstilllaw06_CounterJoined.j2] at h, fun _ _ _ _ _ _ _ _ _ _ r h => by simp [standstilllaw06_CounterJoined.j3] at h, fun _ _ _ _ _ _ _ _ _ r h => by simp [standstilllaw06_CounterJoined.j4] at h, fun _ _ _ _ _ _ _ _ _ _ _ _ r h => by simp [standstilllaw06_CounterJoined.j5] at h, fun _ _ _ _ _ _ _ _ _ _ _ r h => by simp [standstilllaw06_CounterJoined.j6] at h, fun _ _ _ _ _ _ _ _ r h => by simp [standstilllaw06_CounterJoined.l0] at h⟩
 | k + 1 => by
  obtain ⟨ih0, ih1, ih2, ih3, ih4, ih5, ih6⟩ := standstilllaw06_CounterJoined.mono_l k
  refine ⟨?_, ?_, ?_, ?_, ?_, ?_, ?_⟩
  ·intro y0 y1 y2 y3 y4 y5
   unfold standstilllaw06_CounterJoined.j0
   repeat' first
   | (with_reducible exact ih0 _ _ _ _ _ _)
   | (with_reducible exact ih1 _ _ _ _ _)
   | (with_reducible exact ih2 _ _ _ _ _ _ _ _ _ _)
   | (with_reducible exact ih3 _ _ _ _ _ _ _ _ _)
   | (with_reducible exact ih4 _ _ _ _ _ _ _ _ _ _ _ _)
   | (with_reducible exact ih5 _ _ _ _ _ _ _ _ _ _ _)
   | (with_reducible exact ih6 _ _ _ _ _ _ _ _)
   | (with_reducible exact counter_Join.mono _ _ _ _ _)
   | (with_reducible exact counter_Run.mono _ _ _ _ _ _)
   | (with_reducible exact standstilllaw06_awake.mono _)
   | (with_reducible exact standstillref06_Fits.mono _ _ _ _ _)
   | (with_reducible exact standstillref06_SameCount.mono _ _ _ _ _)
   | (with_reducible exact standstillref06_Valid.mono _ _ _)
   | (with_reducible exact LeO.refl _)
   | (with_reducible exact LeO.none _)
   | (with_reducible refine LeO.ite ?_ ?_)
   | (with_reducible refine LeO.bind ?_ (fun _ => ?_))
   | exact ih0 _ _ _ _ _ _
   | exact ih1 _ _ _ _ _
   | exact ih2 _ _ _ _ _ _ _ _ _ _
   | exact ih3 _ _ _ _ _ _ _ _ _
   | exact ih4 _ _ _ _ _ _ _ _ _ _ _ _
   | exact ih5 _ _ _ _ _ _ _ _ _ _ _
   | exact ih6 _ _ _ _ _ _ _ _
   | exact counter_Join.mono _ _ _ _ _
   | exact counter_Run.mono _ _ _ _ _ _
   | exact standstilllaw06_awake.mono _
   | exact standstillref06_Fits.mono _ _ _ _ _
   | exact standstillref06_SameCount.mono _ _ _ _ _
   | exact standstillref06_Valid.mono _ _ _
   | exact LeO.none _
   | refine LeO.ite ?_ ?_
   | refine LeO.bind ?_ (fun _ => ?_)
  ·intro y0 y1 y2 y3 y4
   unfold standstilllaw06_CounterJoined.j2
   repeat' first
   | (with_reducible exact ih0 _ _ _ _ _ _)
   | (with_reducible exact ih1 _ _ _ _ _)
   | (with_reducible exact ih2 _ _ _ _ _ _ _ _ _ _)
   | (with_reducible exact ih3 _ _ _ _ _ _ _ _ _)
   | (with_reducible exact ih4 _ _ _ _ _ _ _ _ _ _ _ _)
   | (with_reducible exact ih5 _ _ _ _ _ _ _ _ _ _ _)
   | (with_reducible exact ih6 _ _ _ _ _ _ _ _)
   | (with_reducible exact counter_Join.mono _ _ _ _ _)
   | (with_reducible exact counter_Run.mono _ _ _ _ _ _)
   | (with_reducible exact standstilllaw06_awake.mono _)
   | (with_reducible exact standstillref06_Fits.mono _ _ _ _ _)
   | (with_reducible exact standstillref06_SameCount.mono _ _ _ _ _)
   | (with_reducible exact standstillref06_Valid.mono _ _ _)
   | (with_reducible exact LeO.refl _)
   | (with_reducible exact LeO.none _)
   | (with_reducible refine LeO.ite ?_ ?_)
   | (with_reducible refine LeO.bind ?_ (fun _ => ?_))
   | exact ih0 _ _ _ _ _ _
   | exact ih1 _ _ _ _ _
   | exact ih2 _ _ _ _ _ _ _ _ _ _
   | exact ih3 _ _ _ _ _ _ _ _ _
   | exact ih4 _ _ _ _ _ _ _ _ _ _ _ _
   | exact ih5 _ _ _ _ _ _ _ _ _ _ _
   | exact ih6 _ _ _ _ _ _ _ _
   | exact counter_Join.mono _ _ _ _ _
   | exact counter_Run.mono _ _ _ _ _ _
   | exact standstilllaw06_awake.mono _
   | exact standstillref06_Fits.mono _ _ _ _ _
   | exact standstillref06_SameCount.mono _ _ _ _ _
   | exact standstillref06_Valid.mono _ _ _
   | exact LeO.none _
   | refine LeO.ite ?_ ?_
   | refine LeO.bind ?_ (fun _ => ?_)
  ·intro y0 y1 y2 y3 y4 y5 y6 y7 y8 y9
   unfold standstilllaw06_CounterJoined.j3
   repeat' first
   | (with_reducible exact ih0 _ _ _ _ _ _)
   | (with_reducible exact ih1 _ _ _ _ _)
   | (with_reducible exact ih2 _ _ _ _ _ _ _ _ _ _)
   | (with_reducible exact ih3 _ _ _ _ _ _ _ _ _)
   | (with_reducible exact ih4 _ _ _ _ _ _ _ _ _ _ _ _)
   | (with_reducible exact ih5 _ _ _ _ _ _ _ _ _ _ _)
   | (with_reducible exact ih6 _ _ _ _ _ _ _ _)
   | (with_reducible exact counter_Join.mono _ _ _ _ _)
   | (with_reducible exact counter_Run.mono _ _ _ _ _ _)
   | (with_reducible exact standstilllaw06_awake.mono _)
   | (with_reducible exact standstillref06_Fits.mono _ _ _ _ _)
   | (with_reducible exact standstillref06_SameCount.mono _ _ _ _ _)
   | (with_reducible exact standstillref06_Valid.mono _ _ _)
   | (with_reducible exact LeO.refl _)
   | (with_reducible exact LeO.none _)
   | (with_reducible refine LeO.ite ?_ ?_)
   | (with_reducible refine LeO.bind ?_ (fun _ => ?_))
   | exact ih0 _ _ _ _ _ _
   | exact ih1 _ _ _ _ _
   | exact ih2 _ _ _ _ _ _ _ _ _ _
   | exact ih3 _ _ _ _ _ _ _ _ _
   | exact ih4 _ _ _ _ _ _ _ _ _ _ _ _
   | exact ih5 _ _ _ _ _ _ _ _ _ _ _
   | exact ih6 _ _ _ _ _ _ _ _
   | exact counter_Join.mono _ _ _ _ _
   | exact counter_Run.mono _ _ _ _ _ _
   | exact standstilllaw06_awake.mono _
   | exact standstillref06_Fits.mono _ _ _ _ _
   | exact standstillref06_SameCount.mono _ _ _ _ _
   | exact standstillref06_Valid.mono _ _ _
   | exact LeO.none _
   | refine LeO.ite ?_ ?_
   | refine LeO.bind ?_ (fun _ => ?_)
  ·intro y0 y1 y2 y3 y4 y5 y6 y7 y8
   unfold standstilllaw06_CounterJoined.j4
   repeat' first
   | (with_reducible exact ih0 _ _ _ _ _ _)
   | (with_reducible exact ih1 _ _ _ _ _)
   | (with_reducible exact ih2 _ _ _ _ _ _ _ _ _ _)
   | (with_reducible exact ih3 _ _ _ _ _ _ _ _ _)
   | (with_reducible exact ih4 _ _ _ _ _ _ _ _ _ _ _ _)
   | (with_reducible exact ih5 _ _ _ _ _ _ _ _ _ _ _)
   | (with_reducible exact ih6 _ _ _ _ _ _ _ _)
   | (with_reducible exact counter_Join.mono _ _ _ _ _)
   | (with_reducible exact counter_Run.mono _ _ _ _ _ _)
   | (with_reducible exact standstilllaw06_awake.mono _)
   | (with_reducible exact standstillref06_Fits.mono _ _ _ _ _)
   | (with_reducible exact standstillref06_SameCount.mono _ _ _ _ _)
   | (with_reducible exact standstillref06_Valid.mono _ _ _)
   | (with_reducible exact LeO.refl _)
   | (with_reducible exact LeO.none _)
   | (with_reducible refine LeO.ite ?_ ?_)
   | (with_reducible refine LeO.bind ?_ (fun _ => ?_))
   | exact ih0 _ _ _ _ _ _
   | exact ih1 _ _ _ _ _
   | exact ih2 _ _ _ _ _ _ _ _ _ _
   | exact ih3 _ _ _ _ _ _ _ _ _
   | exact ih4 _ _ _ _ _ _ _ _ _ _ _ _
   | exact ih5 _ _ _ _ _ _ _ _ _ _ _
   | exact ih6 _ _ _ _ _ _ _ _
   | exact counter_Join.mono _ _ _ _ _
   | exact counter_Run.mono _ _ _ _ _ _
   | exact standstilllaw06_awake.mono _
   | exact standstillref06_Fits.mono _ _ _ _ _
   | exact standstillref06_SameCount.mono _ _ _ _ _
   | exact standstillref06_Valid.mono _ _ _
   | exact LeO.none _
   | refine LeO.ite ?_ ?_
   | refine LeO.bind ?_ (fun _ => ?_)
  ·intro y0 y1 y2 y3 y4 y5 y6 y7 y8 y9 y10 y11
   unfold standstilllaw06_CounterJoined.j5
   repeat' first
   | (with_reducible exact ih0 _ _ _ _ _ _)
   | (with_reducible exact ih1 _ _ _ _ _)
   | (with_reducible exact ih2 _ _ _ _ _ _ _ _ _ _)
   | (with_reducible exact ih3 _ _ _ _ _ _ _ _ _)
   | (with_reducible exact ih4 _ _ _ _ _ _ _ _ _ _ _ _)
   | (with_reducible exact ih5 _ _ _ _ _ _ _ _ _ _ _)
   | (with_reducible exact ih6 _ _ _ _ _ _ _ _)
   | (with_reducible exact counter_Join.mono _ _ _ _ _)
   | (with_reducible exact counter_Run.mono _ _ _ _ _ _)
   | (with_reducible exact standstilllaw06_awake.mono _)
   | (with_reducible exact standstillref06_Fits.mono _ _ _ _ _)
   | (with_reducible exact standstillref06_SameCount.mono _ _ _ _ _)
   | (with_reducible exact standstillref06_Valid.mono _ _ _)
   | (with_reducible exact LeO.refl _)
   | (with_reducible exact LeO.none _)
   | (with_reducible refine LeO.ite ?_ ?_)
   | (with_reducible refine LeO.bind ?_ (fun _ => ?_))
   | exact ih0 _ _ _ _ _ _
   | exact ih1 _ _ _ _ _
   | exact ih2 _ _ _ _ _ _ _ _ _ _
   | exact ih3 _ _ _ _ _ _ _ _ _
   | exact ih4 _ _ _ _ _ _ _ _ _ _ _ _
   | exact ih5 _ _ _ _ _ _ _ _ _ _ _
   | exact ih6 _ _ _ _ _ _ _ _
   | exact counter_Join.mono _ _ _ _ _
   | exact counter_Run.mono _ _ _ _ _ _
   | exact standstilllaw06_awake.mono _
   | exact standstillref06_Fits.mono _ _ _ _ _
   | exact standstillref06_SameCount.mono _ _ _ _ _
   | exact standstillref06_Valid.mono _ _ _
   | exact LeO.none _
   | refine LeO.ite ?_ ?_
   | refine LeO.bind ?_ (fun _ => ?_)
  ·intro y0 y1 y2 y3 y4 y5 y6 y7 y8 y9 y10
   unfold standstilllaw06_CounterJoined.j6
   repeat' first
   | (with_reducible exact ih0 _ _ _ _ _ _)
   | (with_reducible exact ih1 _ _ _ _ _)
   | (with_reducible exact ih2 _ _ _ _ _ _ _ _ _ _)
   | (with_reducible exact ih3 _ _ _ _ _ _ _ _ _)
   | (with_reducible exact ih4 _ _ _ _ _ _ _ _ _ _ _ _)
   | (with_reducible exact ih5 _ _ _ _ _ _ _ _ _ _ _)
   | (with_reducible exact ih6 _ _ _ _ _ _ _ _)
   | (with_reducible exact counter_Join.mono _ _ _ _ _)
   | (with_reducible exact counter_Run.mono _ _ _ _ _ _)
   | (with_reducible exact standstilllaw06_awake.mono _)
   | (with_reducible exact standstillref06_Fits.mono _ _ _ _ _)
   | (with_reducible exact standstillref06_SameCount.mono _ _ _ _ _)
   | (with_reducible exact standstillref06_Valid.mono _ _ _)
   | (with_reducible exact LeO.refl _)
   | (with_reducible exact LeO.none _)
   | (with_reducible refine LeO.ite ?_ ?_)
   | (with_reducible refine LeO.bind ?_ (fun _ => ?_))
   | exact ih0 _ _ _ _ _ _
   | exact ih1 _ _ _ _ _
   | exact ih2 _ _ _ _ _ _ _ _ _ _
   | exact ih3 _ _ _ _ _ _ _ _ _
   | exact ih4 _ _ _ _ _ _ _ _ _ _ _ _
   | exact ih5 _ _ _ _ _ _ _ _ _ _ _
   | exact ih6 _ _ _ _ _ _ _ _
   | exact counter_Join.mono _ _ _ _ _
   | exact counter_Run.mono _ _ _ _ _ _
   | exact standstilllaw06_awake.mono _
   | exact standstillref06_Fits.mono _ _ _ _ _
   | exact standstillref06_SameCount.mono _ _ _ _ _
   | exact standstillref06_Valid.mono _ _ _
   | exact LeO.none _
   | refine LeO.ite ?_ ?_
   | refine LeO.bind ?_ (fun _ => ?_)
  ·intro y0 y1 y2 y3 y4 y5 y6 y7
   unfold standstilllaw06_CounterJoined.l0
   repeat' first
   | (with_reducible exact ih0 _ _ _ _ _ _)
   | (with_reducible exact ih1 _ _ _ _ _)
   | (with_reducible exact ih2 _ _ _ _ _ _ _ _ _ _)
   | (with_reducible exact ih3 _ _ _ _ _ _ _ _ _)
   | (with_reducible exact ih4 _ _ _ _ _ _ _ _ _ _ _ _)
   | (with_reducible exact ih5 _ _ _ _ _ _ _ _ _ _ _)
   | (with_reducible exact ih6 _ _ _ _ _ _ _ _)
   | (with_reducible exact counter_Join.mono _ _ _ _ _)
   | (with_reducible exact counter_Run.mono _ _ _ _ _ _)
   | (with_reducible exact standstilllaw06_awake.mono _)
   | (with_reducible exact standstillref06_Fits.mono _ _ _ _ _)
   | (with_reducible exact standstillref06_SameCount.mono _ _ _ _ _)
   | (with_reducible exact standstillref06_Valid.mono _ _ _)
   | (with_reducible exact LeO.refl _)
   | (with_reducible exact LeO.none _)
   | (with_reducible refine LeO.ite ?_ ?_)
   | (with_reducible refine LeO.bind ?_ (fun _ => ?_))
   | exact ih0 _ _ _ _ _ _
   | exact ih1 _ _ _ _ _
   | exact ih2 _ _ _ _ _ _ _ _ _ _
   | exact ih3 _ _ _ _ _ _ _ _ _
   | exact ih4 _ _ _ _ _ _ _ _ _ _ _ _
   | exact ih5 _ _ _ _ _ _ _ _ _ _ _
   | exact ih6 _ _ _ _ _ _ _ _
   | exact counter_Join.mono _ _ _ _ _
   | exact counter_Run.mono _ _ _ _ _ _
   | exact standstilllaw06_awake.mono _
   | exact standstillref06_Fits.mono _ _ _ _ _
   | exact standstillref06_SameCount.mono _ _ _ _ _
   | exact standstillref06_Valid.mono _ _ _
   | exact LeO.none _
   | refine LeO.ite ?_ ?_
   | refine LeO.bind ?_ (fun _ => ?_)
theorem standstilllaw06_CounterJoined.mono : ∀ a0 a1 a2 a3 a4 k, LeO (standstilllaw06_CounterJoined.f k a0 a1 a2 a3 a4) (standstilllaw06_CounterJoined.f (k + 1) a0 a1 a2 a3 a4) := by
 intro a0 a1 a2 a3 a4 k
 obtain ⟨ih0, ih1, ih2, ih3, ih4, ih5, ih6⟩ := standstilllaw06_CounterJoined.mono_l k
 unfold standstilllaw06_CounterJoined.f
 repeat' first
   | (with_reducible exact ih0 _ _ _ _ _ _)
   | (with_reducible exact ih1 _ _ _ _ _)
   | (with_reducible exact ih2 _ _ _ _ _ _ _ _ _ _)
   | (with_reducible exact ih3 _ _ _ _ _ _ _ _ _)
   | (with_reducible exact ih4 _ _ _ _ _ _ _ _ _ _ _ _)
   | (with_reducible exact ih5 _ _ _ _ _ _ _ _ _ _ _)
   | (with_reducible exact ih6 _ _ _ _ _ _ _ _)
   | (with_reducible exact counter_Join.mono _ _ _ _ _)
   | (with_reducible exact counter_Run.mono _ _ _ _ _ _)
   | (with_reducible exact standstilllaw06_awake.mono _)
   | (with_reducible exact standstillref06_Fits.mono _ _ _ _ _)
   | (with_reducible exact standstillref06_SameCount.mono _ _ _ _ _)
   | (with_reducible exact standstillref06_Valid.mono _ _ _)
   | (with_reducible exact LeO.refl _)
   | (with_reducible exact LeO.none _)
   | (with_reducible refine LeO.ite ?_ ?_)
   | (with_reducible refine LeO.bind ?_ (fun _ => ?_))
   | exact ih0 _ _ _ _ _ _
   | exact ih1 _ _ _ _ _
   | exact ih2 _ _ _ _ _ _ _ _ _ _
   | exact ih3 _ _ _ _ _ _ _ _ _
   | exact ih4 _ _ _ _ _ _ _ _ _ _ _ _
   | exact ih5 _ _ _ _ _ _ _ _ _ _ _
   | exact ih6 _ _ _ _ _ _ _ _
   | exact counter_Join.mono _ _ _ _ _
   | exact counter_Run.mono _ _ _ _ _ _
   | exact standstilllaw06_awake.mono _
   | exact standstillref06_Fits.mono _ _ _ _ _
   | exact standstillref06_SameCount.mono _ _ _ _ _
   | exact standstillref06_Valid.mono _ _ _
   | exact LeO.none _
   | refine LeO.ite ?_ ?_
   | refine LeO.bind ?_ (fun _ => ?_)
def standstilllaw06_CounterJoined.T9 : Bool × List (List Nat × List Nat) := (true, [([], []), ([], []), ([], []), ([2], [2]), ([1, 3], [1, 3]), ([4], [4]), ([0, 5], [0, 5]), ([6], [6]), ([7], [7]), ([7], [7]), ([7], [7]), ([], []), ([11, 8, 6, 0, 1, 2, 3, 4, 5, 6, 7, 8, 11], [8, 11]), ([9, 12, 0, 1, 2, 3, 4, 5, 6, 7, 8, 9, 11, 12], [9]), ([10, 13, 0, 1, 2, 3, 4, 5, 6, 7, 8, 9, 10, 11, 12, 13], [10])])
def standstilllaw06_CounterJoined.B9 : List Nat := [0, 0, 0, 4, 14, 30, 63, 127, 255, 255, 255, 0, 2559, 7167, 16383]
theorem standstilllaw06_CounterJoined.tab9 : rtab .any (opsOf Try.f5 9) = standstilllaw06_CounterJoined.T9 := by kernel_rfl
theorem standstilllaw06_CounterJoined.bits9 : waitsOk standstilllaw06_CounterJoined.T9.2 standstilllaw06_CounterJoined.B9 = true := by kernel_rfl
def standstilllaw06_CounterJoined.T14 : Bool × List (List Nat × List Nat) := (true, [([], []), ([], []), ([1], [1]), ([0, 2], [0, 2]), ([], []), ([], []), ([5], [5]), ([4, 6], [4, 6]), ([3, 7, 3], [3, 7]), ([8, 8, 0, 1, 2, 3, 4, 5, 6, 7, 8], [8])])
def standstilllaw06_CounterJoined.B14 : List Nat := [0, 0, 2, 7, 0, 0, 32, 112, 255, 511]
theorem standstilllaw06_CounterJoined.tab14 : rtab .any (opsOf Try.f5 14) = standstilllaw06_CounterJoined.T14 := by kernel_rfl
theorem standstilllaw06_CounterJoined.bits14 : waitsOk standstilllaw06_CounterJoined.T14.2 standstilllaw06_CounterJoined.B14 = true := by kernel_rfl
def standstilllaw06_CounterJoined.T15 : Bool × List (List Nat × List Nat) := (true, [([], []), ([], []), ([], []), ([2], [2]), ([1, 3], [1, 3]), ([4], [4]), ([0, 5], [0, 5]), ([6], [6]), ([7], [7]), ([7], [7]), ([7], [7]), ([], []), ([11, 8, 6, 0, 1, 2, 3, 4, 5, 6, 7, 8, 11], [8, 11]), ([9, 12, 0, 1, 2, 3, 4, 5, 6, 7, 8, 9, 11, 12], [9]), ([10, 13, 0, 1, 2, 3, 4, 5, 6, 7, 8, 9, 10, 11, 12, 13], [10])])
def standstilllaw06_CounterJoined.B15 : List Nat := [0, 0, 0, 4, 14, 30, 63, 127, 255, 255, 255, 0, 2559, 7167, 16383]
theorem standstilllaw06_CounterJoined.tab15 : rtab .any (opsOf Try.f5 15) = standstilllaw06_CounterJoined.T15 := by kernel_rfl
theorem standstilllaw06_CounterJoined.bits15 : waitsOk standstilllaw06_CounterJoined.T15.2 standstilllaw06_CounterJoined.B15 = true := by kernel_rfl
def standstilllaw06_CounterJoined.T22 : Bool × List (List Nat × List Nat) := (true, [([], []), ([], []), ([1], [1]), ([0, 2], [0, 2]), ([], []), ([], []), ([5], [5]), ([4, 6], [4, 6]), ([3, 7, 3], [3, 7]), ([8, 8, 0, 1, 2, 3, 4, 5, 6, 7, 8], [8])])
def standstilllaw06_CounterJoined.B22 : List Nat := [0, 0, 2, 7, 0, 0, 32, 112, 255, 511]
theorem standstilllaw06_CounterJoined.tab22 : rtab .any (opsOf Try.f5 22) = standstilllaw06_CounterJoined.T22 := by kernel_rfl
theorem standstilllaw06_CounterJoined.bits22 : waitsOk standstilllaw06_CounterJoined.T22.2 standstilllaw06_CounterJoined.B22 = true := by kernel_rfl
set_option maxHeartbeats 8000000 in
set_option maxRecDepth 100000 in
theorem standstilllaw06_CounterJoined.calls (k : Nat) (a0_0 : Int) (A0_1 : Option Addr) (c0_1 : Nat) (l0_1 : List (S33)) (a1_0 : Int) (A1_1 : Option Addr) (c1_1 : Nat) (l1_1 : List (S33)) (A2 : Option Addr) (c2 : Nat) (l2 : List Int) (r : Bool) (w : World) (hr0_1 : Kd.C k33 w A0_1 l0_1.length l0_1) (hc0_1 : l0_1.length ≤ c0_1) (hr1_1 : Kd.C k33 w A1_1 l1_1.length l1_1) (hc1_1 : l1_1.length ≤ c1_1) (hr2 : Kd.C (Kd.int .i64) w A2 l2.length l2) (hc2 : l2.length ≤ c2) (h : standstilllaw06_CounterJoined.f k a0_0 l0_1 a1_0 l1_1 l2 = some r) :
  Calls Try.prog 5 #[.agg #[.int .i64 a0_0, .slice A0_1 l0_1.length c0_1], .agg #[.int .i64 a1_0, .slice A1_1 l1_1.length c1_1], .slice A2 l2.length c2] w fun e w' => e = .returned (.bool r) ∧ Below w.heap.size w w' := by
 have hu24 := Try.underlying24
 have hu27 := Try.underlying27
 have HR0_1 := Aside0.mk hr0_1
 have HC0_1 := Aside0.mk hc0_1
 clear hr0_1 hc0_1
 have HR1_1 := Aside0.mk hr1_1
 have HC1_1 := Aside0.mk hc1_1
 clear hr1_1 hc1_1
 have HR2 := Aside0.mk hr2
 have HC2 := Aside0.mk hc2
 clear hr2 hc2
 have HB := A_ (Below.refl w.heap.size w)
 have H : (if (l0_1.length : Int) > 900 then (standstilllaw06_CounterJoined.j0 k l2 true a0_0 l0_1 a1_0 l1_1) else (if (l1_1.length : Int) > 900 then (standstilllaw06_CounterJoined.j0 k l2 true a0_0 l0_1 a1_0 l1_1) else (if (l2.length : Int) > 100 then (standstilllaw06_CounterJoined.j0 k l2 true a0_0 l0_1 a1_0 l1_1) else ((standstillref06_Valid.f k a0_0 l0_1).bind fun t183 => (if t183 = true then ((standstillref06_Valid.f k a1_0 l1_1).bind fun t184 => (standstilllaw06_CounterJoined.j0 k l2 (!t184) a0_0 l0_1 a1_0 l1_1)) else (standstilllaw06_CounterJoined.j0 k l2 true a0_0 l0_1 a1_0 l1_1)))))) = some r := h
 clear h
 have HC4 := Aside0.mk H
 clear H
 go_enter Try.func5, Try.ntmps5
 go_upto_region 1 with (first | ((with_reducible refine gate_dst (N := 3) rfl ?_); (try (refine gate_guard (by rfl) ?_; dsimp only)); refine box_event ?hg (N := 3) ?hd (cs := #[.int .i64 a0_0, .slice A0_1 l0_1.length c0_1]) (t := 24) ?hr ?_; (case hd => rfl); (case hg => rfl); (case hr => first | (go_simp; done) | (go_simp; rfl)); intro gb181 hg w5 hbox hb; have n0_ := A_ (below_step (bk_ HB.out) hb); have n1_ := A_ (hbox); have n2_ := A_ ((by rw [hg]; exact (below_size (bk_ HB.out)) : w.heap.size ≤ gb181)); have n3_ := A_ ((by rw [hg]; exact (below_size (bk_ HB.out)) : w.heap.size ≤ gb181)); clear HB; have HB := n0_; have BK181 := n1_; have GW181 := n2_; have GE181 := n3_; clear n0_ n1_ n2_ n3_ hb hbox hg) | ((with_reducible refine gate_dst (N := 4) rfl ?_); (try (refine gate_guard (by rfl) ?_; dsimp only)); refine box_event ?hg (N := 4) ?hd (cs := #[.int .i64 a1_0, .slice A1_1 l1_1.length c1_1]) (t := 24) ?hr ?_; (case hd => rfl); (case hg => rfl); (case hr => first | (go_simp; done) | (go_simp; rfl)); intro gb182 hg w6 hbox hb; have n0_ := A_ (blk_below (pk_ BK181.out) hb); have n1_ := A_ (below_step (bk_ HB.out) hb); have n2_ := A_ (hbox); have n3_ := A_ ((by rw [hg]; exact (below_size (bk_ HB.out)) : w.heap.size ≤ gb182)); have n4_ := A_ ((by rw [hg]; exact (below_size (bk_ HB.out)) : w.heap.size ≤ gb182)); have n5_ := A_ ((by rw [hg]; exact Nat.ne_of_lt (blk_lt (pk_ BK181.out)) : gb181 ≠ gb182)); have n6_ := A_ ((by rw [hg]; exact Nat.ne_of_gt (blk_lt (pk_ BK181.out)) : gb182 ≠ gb181)); clear BK181 HB; have BK181 := n0_; have HB := n1_; have BK182 := n2_; have GW182 := n3_; have GE182 := n4_; have NB181_182 := n5_; have NB182_181 := n6_; clear n0_ n1_ n2_ n3_ n4_ n5_ n6_ hb hbox hg))
 (try simp only [Act.put, List.setIfInBounds_toArray, List.set_cons_zero, List.set_cons_succ])
 go_cut [47] (fun v47 wc => ∃ (kq : Nat) (x47_3 : Bool), v47 = .bool x47_3 ∧ Aside0 (standstilllaw06_CounterJoined.j0 kq l2 x47_3 a0_0 l0_1 a1_0 l1_1 = some r) ∧ Aside0 (kq ≤ k) ∧ Aside0 (wc.heap[gb181]? = some (.cells #[.int .i64 a0_0, (.slice A0_1 l0_1.length c0_1)] 24 (0, 0))) ∧ Aside0 (wc.heap[gb182]? = some (.cells #[.int .i64 a1_0, (.slice A1_1 l1_1.length c1_1)] 24 (0, 0))) ∧ Aside0 (Below w.heap.size w wc))
 case first => as_aux_lemma =>
  have H := HC4.out
  clear HC4
  by_cases c7 : (l0_1.length : Int) > 900
  ·rw [if_pos c7] at H
   have c7b0 : decide (900 < (l0_1.length : Int)) = true := decide_eq_true c7
   have c7b1 : decide (900 < l0_1.length) = true := decide_eq_true (by omega)
   clear c7
   (first | rw [c7b0] | (simp only [i64_w, i32_w]; rw [c7b0]) | skip)
   have H' := Aside0.mk H
   clear H
   have hnb8 := NB181_182.out
   have hnc8 := NB182_181.out
   have hcz9_0 : w6.cell? ⟨gb181, 0, none⟩ = some (.int .i64 a0_0) := (blk_cell BK181.out 0).trans rfl
   have hcz9_1 : w6.cell? ⟨gb181, 1, none⟩ = some (.slice A0_1 l0_1.length c0_1) := (blk_cell BK181.out 1).trans rfl
   have hfz9_0 := blk_frozen BK181.out 0
   have hfz9_1 := blk_frozen BK181.out 1
   go_wp2
   go_meet
   case rel => exact ⟨_, (true), jr_, H', ⟨by first | omega | exact Nat.le_refl _⟩, ⟨pk_ BK181.out⟩, ⟨pk_ BK182.out⟩, ⟨bk_ HB.out⟩⟩
  ·rw [if_neg c7] at H
   have c7b0 : decide (900 < (l0_1.length : Int)) = false := decide_eq_false c7
   have c7b1 : decide (900 < l0_1.length) = false := decide_eq_false (by omega)
   clear c7
   (first | rw [c7b0] | (simp only [i64_w, i32_w]; rw [c7b0]) | skip)
   by_cases c10 : (l1_1.length : Int) > 900
   ·rw [if_pos c10] at H
    have c10b0 : decide (900 < (l1_1.length : Int)) = true := decide_eq_true c10
    have c10b1 : decide (900 < l1_1.length) = true := decide_eq_true (by omega)
    clear c10
    have H' := Aside0.mk H
    clear H
    have hnb11 := NB181_182.out
    have hnc11 := NB182_181.out
    have hcz12_0 : w6.cell? ⟨gb181, 0, none⟩ = some (.int .i64 a0_0) := (blk_cell BK181.out 0).trans rfl
    have hcz12_1 : w6.cell? ⟨gb181, 1, none⟩ = some (.slice A0_1 l0_1.length c0_1) := (blk_cell BK181.out 1).trans rfl
    have hfz12_0 := blk_frozen BK181.out 0
    have hfz12_1 := blk_frozen BK181.out 1
    have hcz13_0 : w6.cell? ⟨gb182, 0, none⟩ = some (.int .i64 a1_0) := (blk_cell BK182.out 0).trans rfl
    have hcz13_1 : w6.cell? ⟨gb182, 1, none⟩ = some (.slice A1_1 l1_1.length c1_1) := (blk_cell BK182.out 1).trans rfl
    have hfz13_0 := blk_frozen BK182.out 0
    have hfz13_1 := blk_frozen BK182.out 1
    go_wp2
    go_meet
    case rel => exact ⟨_, (true), jr_, H', ⟨by first | omega | exact Nat.le_refl _⟩, ⟨pk_ BK181.out⟩, ⟨pk_ BK182.out⟩, ⟨bk_ HB.out⟩⟩
   ·rw [if_neg c10] at H
    have c10b0 : decide (900 < (l1_1.length : Int)) = false := decide_eq_false c10
    have c10b1 : decide (900 < l1_1.length) = false := decide_eq_false (by omega)
    clear c10
    by_cases c14 : (l2.length : Int) > 100
    ·rw [if_pos c14] at H
     have c14b0 : decide (100 < (l2.length : Int)) = true := decide_eq_true c14
     have c14b1 : decide (100 < l2.length) = true := decide_eq_true (by omega)
     clear c14
     have H' := Aside0.mk H
     clear H
     have hnb15 := NB181_182.out
     have hnc15 := NB182_181.out
     have hcz16_0 : w6.cell? ⟨gb181, 0, none⟩ = some (.int .i64 a0_0) := (blk_cell BK181.out 0).trans rfl
     have hcz16_1 : w6.cell? ⟨gb181, 1, none⟩ = some (.slice A0_1 l0_1.length c0_1) := (blk_cell BK181.out 1).trans rfl
     have hfz16_0 := blk_frozen BK181.out 0
     have hfz16_1 := blk_frozen BK181.out 1
     have hcz17_0 : w6.cell? ⟨gb182, 0, none⟩ = some (.int .i64 a1_0) := (blk_cell BK182.out 0).trans rfl
     have hcz17_1 : w6.cell? ⟨gb182, 1, none⟩ = some (.slice A1_1 l1_1.length c1_1) := (blk_cell BK182.out 1).trans rfl
     have hfz17_0 := blk_frozen BK182.out 0
     have hfz17_1 := blk_frozen BK182.out 1
     go_wp2
     go_meet
     case rel => exact ⟨_, (true), jr_, H', ⟨by first | omega | exact Nat.le_refl _⟩, ⟨pk_ BK181.out⟩, ⟨pk_ BK182.out⟩, ⟨bk_ HB.out⟩⟩
    ·rw [if_neg c14] at H
     have c14b0 : decide (100 < (l2.length : Int)) = false := decide_eq_false c14
     have c14b1 : decide (100 < l2.length) = false := decide_eq_false (by omega)
     clear c14
     replace H := Option.bind_eq_some_iff.mp H
     obtain ⟨t183, A180, H⟩ := H
     replace H : (if t183 = true then ((standstillref06_Valid.f k a1_0 l1_1).bind fun t184 => (standstilllaw06_CounterJoined.j0 k l2 (!t184) a0_0 l0_1 a1_0 l1_1)) else (standstilllaw06_CounterJoined.j0 k l2 true a0_0 l0_1 a1_0 l1_1)) = some r := H
     have A18 := Aside0.mk A180
     clear A180
     by_cases c19 : t183 = true
     ·subst c19
      have H1 : ((standstillref06_Valid.f k a1_0 l1_1).bind fun t184 => (standstilllaw06_CounterJoined.j0 k l2 (!t184) a0_0 l0_1 a1_0 l1_1)) = some r := by rw [if_pos rfl] at H; exact H
      clear H
      have H := H1
      clear H1
      replace H := Option.bind_eq_some_iff.mp H
      obtain ⟨t184, A200, H⟩ := H
      replace H : (standstilllaw06_CounterJoined.j0 k l2 (!t184) a0_0 l0_1 a1_0 l1_1) = some r := H
      have A20 := Aside0.mk A200
      clear A200
      have H' := Aside0.mk H
      clear H
      have hnb21 := NB181_182.out
      have hnc21 := NB182_181.out
      have hcz22_0 : w6.cell? ⟨gb181, 0, none⟩ = some (.int .i64 a0_0) := (blk_cell BK181.out 0).trans rfl
      have hcz22_1 : w6.cell? ⟨gb181, 1, none⟩ = some (.slice A0_1 l0_1.length c0_1) := (blk_cell BK181.out 1).trans rfl
      have hfz22_0 := blk_frozen BK181.out 0
      have hfz22_1 := blk_frozen BK181.out 1
      have hcz23_0 : w6.cell? ⟨gb182, 0, none⟩ = some (.int .i64 a1_0) := (blk_cell BK182.out 0).trans rfl
      have hcz23_1 : w6.cell? ⟨gb182, 1, none⟩ = some (.slice A1_1 l1_1.length c1_1) := (blk_cell BK182.out 1).trans rfl
      have hfz23_0 := blk_frozen BK182.out 0
      have hfz23_1 := blk_frozen BK182.out 1
      go_wp2_with (first | (go_at_call 13; (with_reducible refine (standstillref06_Valid.calls k a0_0 _ _ l0_1 true _ ?side1 ?side2 A18.out).mono ?_); (case side1 => exact ck_ (Kd.C_below HR0_1.out HB.out)); (case side2 => exact HC0_1.out); rintro e w24 ⟨rfl, hb⟩; have n0_ := A_ (blk_below (pk_ BK181.out) hb); have n1_ := A_ (blk_below (pk_ BK182.out) hb); have n2_ := A_ (below_step (bk_ HB.out) hb); clear BK181 BK182 HB; have BK181 := n0_; have BK182 := n1_; have HB := n2_; clear n0_ n1_ n2_; (try clear hb); (try clear hb2); (try clear hk); (try clear hi); have hcz25_0 : w24.cell? ⟨gb182, 0, none⟩ = some (.int .i64 a1_0) := (blk_cell BK182.out 0).trans rfl; have hcz25_1 : w24.cell? ⟨gb182, 1, none⟩ = some (.slice A1_1 l1_1.length c1_1) := (blk_cell BK182.out 1).trans rfl; have hfz25_0 := blk_frozen BK182.out 0; have hfz25_1 := blk_frozen BK182.out 1) | (go_at_call 13; (with_reducible refine (standstillref06_Valid.calls k a1_0 _ _ l1_1 t184 _ ?side1 ?side2 A20.out).mono ?_); (case side1 => exact ck_ (Kd.C_below HR1_1.out HB.out)); (case side2 => exact HC1_1.out); rintro e w26 ⟨rfl, hb⟩; have n0_ := A_ (blk_below (pk_ BK181.out) hb); have n1_ := A_ (blk_below (pk_ BK182.out) hb); have n2_ := A_ (below_step (bk_ HB.out) hb); clear BK181 BK182 HB; have BK181 := n0_; have BK182 := n1_; have HB := n2_; clear n0_ n1_ n2_; (try clear hb); (try clear hb2); (try clear hk); (try clear hi)))
      go_meet
      case rel => exact ⟨_, (!t184), jr_, H', ⟨by first | omega | exact Nat.le_refl _⟩, ⟨pk_ BK181.out⟩, ⟨pk_ BK182.out⟩, ⟨bk_ HB.out⟩⟩
     ·replace c19 := Bool.eq_false_iff.mpr c19
      subst c19
      have H1 : (standstilllaw06_CounterJoined.j0 k l2 true a0_0 l0_1 a1_0 l1_1) = some r := by rw [if_neg (show ¬ (false = true) by decide)] at H; exact H
      clear H
      have H := H1
      clear H1
      have H' := Aside0.mk H
      clear H
      have hnb27 := NB181_182.out
      have hnc27 := NB182_181.out
      have hcz28_0 : w6.cell? ⟨gb181, 0, none⟩ = some (.int .i64 a0_0) := (blk_cell BK181.out 0).trans rfl
      have hcz28_1 : w6.cell? ⟨gb181, 1, none⟩ = some (.slice A0_1 l0_1.length c0_1) := (blk_cell BK181.out 1).trans rfl
      have hfz28_0 := blk_frozen BK181.out 0
      have hfz28_1 := blk_frozen BK181.out 1
      have hcz29_0 : w6.cell? ⟨gb182, 0, none⟩ = some (.int .i64 a1_0) := (blk_cell BK182.out 0).trans rfl
      have hcz29_1 : w6.cell? ⟨gb182, 1, none⟩ = some (.slice A1_1 l1_1.length c1_1) := (blk_cell BK182.out 1).trans rfl
      have hfz29_0 := blk_frozen BK182.out 0
      have hfz29_1 := blk_frozen BK182.out 1
      go_wp2_with (first | (go_at_call 13; (with_reducible refine (standstillref06_Valid.calls k a0_0 _ _ l0_1 false _ ?side1 ?side2 A18.out).mono ?_); (case side1 => exact ck_ (Kd.C_below HR0_1.out HB.out)); (case side2 => exact HC0_1.out); rintro e w30 ⟨rfl, hb⟩; have n0_ := A_ (blk_below (pk_ BK181.out) hb); have n1_ := A_ (blk_below (pk_ BK182.out) hb); have n2_ := A_ (below_step (bk_ HB.out) hb); clear BK181 BK182 HB; have BK181 := n0_; have BK182 := n1_; have HB := n2_; clear n0_ n1_ n2_; (try clear hb); (try clear hb2); (try clear hk); (try clear hi)))
      go_meet
      case rel => exact ⟨_, (true), jr_, H', ⟨by first | omega | exact Nat.le_refl _⟩, ⟨pk_ BK181.out⟩, ⟨pk_ BK182.out⟩, ⟨bk_ HB.out⟩⟩
 case rest => as_aux_lemma =>
  clear HC4
  (try clear c2)
  obtain ⟨kq, x47_3, rfl, HA, HJ3, BK181, BK182, HB⟩ := hcut
  cases kq with
  | zero => exact absurd HA.out (by simp [standstilllaw06_CounterJoined.j0])
  | succ kj3 =>
   have H := HA.out
   clear HA
   simp only [standstilllaw06_CounterJoined.j0] at H
   by_cases c31 : x47_3 = true
   ·subst c31
    have H1 : ((standstilllaw06_awake.f kj3).bind fun t185 => (some t185)) = some r := by rw [if_pos rfl] at H; exact H
    clear H
    have H := H1
    clear H1
    replace H := Option.bind_eq_some_iff.mp H
    obtain ⟨t185, A320, H⟩ := H
    replace H : (some t185) = some r := H
    have A32 := Aside0.mk A320
    clear A320
    obtain rfl := Option.some.inj H
    go_wp2_with (first | ((with_reducible refine gate_callee (f := 10) rfl ?_); refine goesL_ (some 48) rfl rfl Try.func10 (by kernel_rfl) rfl #[] rfl gl_ ?_; (with_reducible refine (standstilllaw06_awake.calls kj3  t185 _ A32.out).mono ?_); rintro e w33 ⟨rfl, hb⟩; refine ⟨_, rfl, ?_⟩; have n0_ := A_ (blk_below (pk_ BK181.out) hb); have n1_ := A_ (blk_below (pk_ BK182.out) hb); have n2_ := A_ (below_step (bk_ HB.out) hb); clear BK181 BK182 HB; have BK181 := n0_; have BK182 := n1_; have HB := n2_; clear n0_ n1_ n2_; (try clear hb); (try clear hb2); (try clear hk); (try clear hi)))
    go_ret
    exact ⟨er_, bk_ HB.out⟩
   ·replace c31 := Bool.eq_false_iff.mpr c31
    subst c31
    have H1 : (if 0 ≤ (mx a0_0 a1_0) then (if (mx a0_0 a1_0 : Int).toNat ≤ 35184372088832 then (standstilllaw06_CounterJoined.l0 kj3 l2 (mx a0_0 a1_0) (List.replicate (mx a0_0 a1_0 : Int).toNat 0) 0 a0_0 l0_1 a1_0 l1_1) else (none)) else (none)) = some r := by rw [if_neg (show ¬ (false = true) by decide)] at H; exact H
    clear H
    have H := H1
    clear H1
    obtain ⟨ji34, hji34⟩ : ∃ j_ : Int, (mx a0_0 a1_0) = j_ := ⟨_, rfl⟩
    replace H : (if 0 ≤ (ji34) then (if (ji34 : Int).toNat ≤ 35184372088832 then (standstilllaw06_CounterJoined.l0 kj3 l2 ji34 (List.replicate (ji34 : Int).toNat 0) 0 a0_0 l0_1 a1_0 l1_1) else (none)) else (none)) = some r := by first | (rw [hji34] at H; exact H) | (simp only [hji34] at H ⊢; exact H)
    have hji34_ : (if a0_0 < a1_0 then a1_0 else a0_0) = ji34 := hji34
    by_cases c35 : 0 ≤ (ji34)
    ·rw [if_pos c35] at H
     have c35b0 := eq_true c35
     have c35b1 : decide (0 ≤ (ji34)) = true := decide_eq_true c35
     clear c35
     by_cases c36 : (ji34 : Int).toNat ≤ 35184372088832
     ·rw [if_pos c36] at H
      have c36b0 := eq_true c36
      have c36b1 : decide ((ji34 : Int).toNat ≤ 35184372088832) = true := decide_eq_true c36
      clear c36
      obtain ⟨y186, hy186⟩ : ∃ y_ : List Int, y_ = (List.replicate (ji34 : Int).toNat 0) := ⟨_, rfl⟩
      replace H : (standstilllaw06_CounterJoined.l0 kj3 l2 ji34 y186 0 a0_0 l0_1 a1_0 l1_1) = some r := by first | (rw [hy186]; with_reducible exact H) | (have H2_ := (Option.bind_some _ _).symm.trans H; rw [hy186]; with_reducible exact H2_) | (have H2_ := (Option.bind_some _ _).symm.trans H; with_reducible exact H2_) | with_reducible exact H | (rw [hy186]; exact H) | exact H
      have Ny186 := Aside0.mk hy186
      clear hy186
      have HC37 := Aside0.mk H
      clear H
      have hnb38 := NB181_182.out
      have hnc38 := NB182_181.out
      have hcz39_0 : wc.cell? ⟨gb181, 0, none⟩ = some (.int .i64 a0_0) := (blk_cell BK181.out 0).trans rfl
      have hcz39_1 : wc.cell? ⟨gb181, 1, none⟩ = some (.slice A0_1 l0_1.length c0_1) := (blk_cell BK181.out 1).trans rfl
      have hfz39_0 := blk_frozen BK181.out 0
      have hfz39_1 := blk_frozen BK181.out 1
      have hcz40_0 : wc.cell? ⟨gb182, 0, none⟩ = some (.int .i64 a1_0) := (blk_cell BK182.out 0).trans rfl
      have hcz40_1 : wc.cell? ⟨gb182, 1, none⟩ = some (.slice A1_1 l1_1.length c1_1) := (blk_cell BK182.out 1).trans rfl
      have hfz40_0 := blk_frozen BK182.out 0
      have hfz40_1 := blk_frozen BK182.out 1
      go_upto_block 0 with (first | ((with_reducible refine gate_dst (N := 55) rfl ?_); (try (refine gate_guard (by rfl) ?_; dsimp only)); refine Kd.R_make (Kd.int .i64) _ 3 rfl (N := 55) rfl 25 _ _ rfl ji34 rfl rfl Try.underlying25 (.int .i64 0) 8 info3 rfl (by decide) (by omega) 0 (ok := fun _ => True) (okp := fun _ => True) rfl (fun _ hk => hk) trivial (od_) (Nat.le_trans (Nat.mul_le_mul_right _ (od_ : ji34.toNat ≤ 35184372088832)) (by omega)) (Below.refl _ _) (Nat.le_refl _) ?_; intro v187 w41 ho42 hb hg_ hnew_; clear hg_ hnew_; (first | rw [← Ny186.out] at ho42 | (simp only [Int.reduceToNat] at ho42; rw [← Ny186.out] at ho42)); have n0_ := A_ (Kd.R_lower ho42 (below_size (bk_ HB.out))); have n1_ := A_ (blk_below (pk_ BK181.out) hb); have n2_ := A_ (blk_below (pk_ BK182.out) hb); have n3_ := A_ (below_step (bk_ HB.out) hb); clear BK181 BK182 HB; have HO188 := n0_; have BK181 := n1_; have BK182 := n2_; have HB := n3_; clear n0_ n1_ n2_ n3_ hb ho42))
      (try simp only [Act.put, List.setIfInBounds_toArray, List.set_cons_zero, List.set_cons_succ])
      go_cut [] (fun wc => ∃ (kq : Nat) (x8_36 : List Int), Aside0 (standstilllaw06_CounterJoined.j2 kq x8_36 a0_0 l0_1 a1_0 l1_1 = some r) ∧ Aside0 (kq ≤ kj3) ∧ Aside0 (Kd.R (Kd.int .i64) 3 wc w.heap.size (fun _ => True) v187 x8_36) ∧ Aside0 (wc.heap[gb181]? = some (.cells #[.int .i64 a0_0, (.slice A0_1 l0_1.length c0_1)] 24 (0, 0))) ∧ Aside0 (wc.heap[gb182]? = some (.cells #[.int .i64 a1_0, (.slice A1_1 l1_1.length c1_1)] 24 (0, 0))) ∧ Aside0 (Below w.heap.size w wc))
      case first => as_aux_lemma =>
       have H := HC37.out
       clear HC37
       have H' := Aside0.mk H
       clear H
       go_wp2
       go_loopg [9] kj3 (fun kq v9 w' => ∃ (x8_2 : List Int) (x9_2 : Int), v9 = .int .i64 x9_2 ∧ Aside0 (standstilllaw06_CounterJoined.l0 kq l2 ji34 x8_2 x9_2 a0_0 l0_1 a1_0 l1_1 = some r) ∧ Aside0 (kq ≤ kj3) ∧ Aside0 (Kd.R (Kd.int .i64) 3 w' w.heap.size (fun _ => True) v187 x8_2) ∧ Aside0 (w'.heap[gb181]? = some (.cells #[.int .i64 a0_0, (.slice A0_1 l0_1.length c0_1)] 24 (0, 0))) ∧ Aside0 (w'.heap[gb182]? = some (.cells #[.int .i64 a1_0, (.slice A1_1 l1_1.length c1_1)] 24 (0, 0))) ∧ Aside0 (Below w.heap.size w w'))
       case atStart => exact ⟨(y186), (0), jr_, H', ⟨Nat.le_refl _⟩, ⟨rk_ HO188.out⟩, ⟨pk_ BK181.out⟩, ⟨pk_ BK182.out⟩, ⟨bk_ HB.out⟩⟩
       case round => as_aux_lemma =>
        clear H'
        (try clear c2); (try clear c31); (try clear c35); (try clear c35b0); (try clear c35b1); (try clear c36); (try clear c36b0); (try clear c36b1); (try clear hcz39_0); (try clear hcz39_1); (try clear hcz40_0); (try clear hcz40_1); (try clear hfz39_0); (try clear hfz39_1); (try clear hfz40_0); (try clear hfz40_1)
        obtain ⟨x8_2, x9_2, rfl, HA, HK2, HO_8, BK181, BK182, HB⟩ := hrel
        cases gk with
        | zero => exact absurd HA.out (by simp [standstilllaw06_CounterJoined.l0])
        | succ k2 =>
         have H := HA.out
         clear HA
         simp only [standstilllaw06_CounterJoined.l0] at H
         by_cases c43 : x9_2 < ji34
         ·rw [if_pos c43] at H
          have c43b0 : decide (x9_2 < ji34) = true := decide_eq_true c43
          clear c43
          (first | rw [c43b0] | (simp only [i64_w, i32_w]; rw [c43b0]) | skip)
          by_cases c44 : x9_2 < (l2.length : Int)
          ·rw [if_pos c44] at H
           have c44b0 : decide (x9_2 < (l2.length : Int)) = true := decide_eq_true c44
           clear c44
           by_cases c45 : 0 ≤ x9_2
           ·rw [if_pos c45] at H
            have c45b0 : decide (0 ≤ x9_2) = true := decide_eq_true c45
            clear c45
            by_cases c46 : x9_2 < (x8_2.length : Int)
            ·rw [if_pos c46] at H
             have c46b0 : decide (x9_2 < (x8_2.length : Int)) = true := decide_eq_true c46
             clear c46
             obtain ⟨y190, hy190⟩ : ∃ y_ : List Int, y_ = (x8_2.set (x9_2 : Int).toNat (rd l2 x9_2)) := ⟨_, rfl⟩
             replace H : (standstilllaw06_CounterJoined.l0 k2 l2 ji34 y190 (wrap64 (x9_2 + 1)) a0_0 l0_1 a1_0 l1_1) = some r := by first | (rw [hy190]; with_reducible exact H) | (have H2_ := (Option.bind_some _ _).symm.trans H; rw [hy190]; with_reducible exact H2_) | (have H2_ := (Option.bind_some _ _).symm.trans H; with_reducible exact H2_) | with_reducible exact H | (rw [hy190]; exact H) | exact H
             have Ny190 := Aside0.mk hy190
             clear hy190
             have H' := Aside0.mk H
             clear H
             have p189 : 0 ≤ (x9_2 : Int) := od_
             have q189 : x9_2 < (l2.length : Int) := od_
             obtain ⟨ad189, e189, hx189_0⟩ := Kd.at_int HR2.out x9_2 p189 q189
             cases e189
             replace hx189_0 := lf_ HB.out hx189_0
             replace p189 := eq_true p189
             replace q189 := eq_true q189
             have p47 : 0 ≤ (x9_2 : Int) := od_
             have q47 : (x9_2 : Int) < ((x8_2.length : Int) : Int) := od_
             obtain ⟨go47, co47, eo47, gb47, gl47, cl47, HG47⟩ := Kd.R_form HO_8.out (by omega)
             (first | cases eo47 | (injection eo47 with ea_ en_ ec_; (first | subst ea_ | (injection ea_ with ea_; subst ea_)); subst ec_; clear en_))
             have GB47 := Aside0.mk gb47
             have GG47 := Aside0.mk HG47
             clear gb47 gl47 HG47
             obtain ⟨hx47_0, hf47_0⟩ := Kd.R_celln 0 HO_8.out (x9_2 : Int) p47 q47
             replace p47 := eq_true p47
             replace q47 := eq_true q47
             have HP48 := Kd.R_putg HO_8.out (x9_2 : Int) (rd l2 x9_2)
             go_wp2_with (first | ((with_reducible refine gate_store (t := 3) (p := 73) rfl ?_); refine store_event (t := 3) (p := 73) (v := ?vo_w49) (w1 := (wr.setCell ⟨go47, (x9_2 : Int).toNat, none⟩ (.int .i64 (rd l2 x9_2)))) ?hg ?ho ?hn ?hr ?_; (case ho => rfl); (case hg => rfl); (case hn => rfl); (case hr => first | (go_simp; done) | (go_simp; rfl)); intro w49 hw; have hg : wr.grownBy w49 (some go47) := (by rw [hw]; exact HP48.2); have hp_ : Kd.R (Kd.int .i64) 3 w49 w.heap.size (fun _ => True) (.slice (some ⟨go47, 0, none⟩) x8_2.length co47) y190 := (by rw [hw, Ny190.out]; exact HP48.1); clear HP48; have n0_ := A_ (hp_); have n1_ := A_ (blk_grown (pk_ BK181.out) hg (Kd.R_ne HO_8.out BK181.out (by decide))); have n2_ := A_ (blk_grown (pk_ BK182.out) hg (Kd.R_ne HO_8.out BK182.out (by decide))); have n3_ := A_ ((by rw [hw]; exact below_set (HB.out) GB47.out : Below w.heap.size w w49)); clear HO_8 BK181 BK182 HB; have HO_8 := n0_; have BK181 := n1_; have BK182 := n2_; have HB := n3_; clear n0_ n1_ n2_ n3_ hg hw hp_))
             go_roundg k2
             case measure => have := HJ3.out; have := HK2.out; omega
             case rel => exact ⟨(y190), (wrap64 (x9_2 + 1)), jr_, H', ⟨by have := HJ3.out; have := HK2.out; omega⟩, ⟨rk_ HO_8.out⟩, ⟨pk_ BK181.out⟩, ⟨pk_ BK182.out⟩, ⟨bk_ HB.out⟩⟩
            ·rw [if_neg c46] at H
             exact absurd H (by simp)
           ·rw [if_neg c45] at H
            exact absurd H (by simp)
          ·rw [if_neg c44] at H
           have c44b0 : decide (x9_2 < (l2.length : Int)) = false := decide_eq_false c44
           clear c44
           have H' := Aside0.mk H
           clear H
           go_wp2
           go_meet
           case rel => exact ⟨_, (x8_2), H', ⟨by have := HJ3.out; have := HK2.out; first | omega | exact Nat.le_refl _⟩, ⟨rk_ HO_8.out⟩, ⟨pk_ BK181.out⟩, ⟨pk_ BK182.out⟩, ⟨bk_ HB.out⟩⟩
         ·rw [if_neg c43] at H
          have c43b0 : decide (x9_2 < ji34) = false := decide_eq_false c43
          clear c43
          (first | rw [c43b0] | (simp only [i64_w, i32_w]; rw [c43b0]) | skip)
          have H' := Aside0.mk H
          clear H
          go_wp2
          go_meet
          case rel => exact ⟨_, (x8_2), H', ⟨by have := HJ3.out; have := HK2.out; first | omega | exact Nat.le_refl _⟩, ⟨rk_ HO_8.out⟩, ⟨pk_ BK181.out⟩, ⟨pk_ BK182.out⟩, ⟨bk_ HB.out⟩⟩
      case rest => as_aux_lemma =>
       clear HC37
       (try clear c2); (try clear c31); (try clear c35); (try clear c35b0); (try clear c35b1); (try clear c36); (try clear c36b0); (try clear c36b1); (try clear hcz39_0); (try clear hcz39_1); (try clear hcz40_0); (try clear hcz40_1); (try clear hfz39_0); (try clear hfz39_1); (try clear hfz40_0); (try clear hfz40_1)
       obtain ⟨kq, x8_36, HA, HJ36, HO_8, BK181, BK182, HB⟩ := hcut
       cases kq with
       | zero => exact absurd HA.out (by simp [standstilllaw06_CounterJoined.j2])
       | succ kj36 =>
        have H := HA.out
        clear HA
        simp only [standstilllaw06_CounterJoined.j2] at H
        by_cases c50 : 0 ≤ a0_0
        ·rw [if_pos c50] at H
         have c50b0 := eq_true c50
         have c50b1 : decide (0 ≤ a0_0) = true := decide_eq_true c50
         clear c50
         by_cases c51 : a0_0 ≤ (x8_36.length : Int)
         ·rw [if_pos c51] at H
          have c51b0 := eq_true c51
          have c51b1 : decide (a0_0 ≤ (x8_36.length : Int)) = true := decide_eq_true c51
          clear c51
          obtain ⟨y191, hy191⟩ : ∃ y_ : List Int, y_ = (x8_36.take (a0_0 : Int).toNat) := ⟨_, rfl⟩
          replace H : ((counter_Run.f kj36 a0_0 l0_1 0 y191 3000).bind fun bt195 => (if bt195.2.2.2 = 0 then ((standstillref06_Fits.f kj36 a0_0 l0_1 bt195.1 bt195.2.1).bind fun t202 => (standstilllaw06_CounterJoined.j3 kj36 x8_36 bt195.2.2.1 bt195.2.2.2 (!t202) a0_0 l0_1 a1_0 l1_1 bt195.1 bt195.2.1)) else (standstilllaw06_CounterJoined.j3 kj36 x8_36 bt195.2.2.1 bt195.2.2.2 false a0_0 l0_1 a1_0 l1_1 bt195.1 bt195.2.1))) = some r := by first | (rw [hy191]; with_reducible exact H) | (have H2_ := (Option.bind_some _ _).symm.trans H; rw [hy191]; with_reducible exact H2_) | (have H2_ := (Option.bind_some _ _).symm.trans H; with_reducible exact H2_) | with_reducible exact H | (rw [hy191]; exact H) | exact H
          have Ny191 := Aside0.mk hy191
          clear hy191
          replace H := Option.bind_eq_some_iff.mp H
          obtain ⟨⟨t195, t196, t199, t200⟩, A520, H⟩ := H
          replace H : (if t200 = 0 then ((standstillref06_Fits.f kj36 a0_0 l0_1 t195 t196).bind fun t202 => (standstilllaw06_CounterJoined.j3 kj36 x8_36 t199 t200 (!t202) a0_0 l0_1 a1_0 l1_1 t195 t196)) else (standstilllaw06_CounterJoined.j3 kj36 x8_36 t199 t200 false a0_0 l0_1 a1_0 l1_1 t195 t196)) = some r := H
          have A52 := Aside0.mk A520
          clear A520
          have HC53 := Aside0.mk H
          clear H
          try go_wp2
          have n0_ := A_ (Kd.R_drew HO_8.out)
          have n1_ := A_ (blk_drew BK181.out)
          have n2_ := A_ (blk_drew BK182.out)
          have n3_ := A_ (below_drew1 HB.out)
          clear HO_8 BK181 BK182 HB
          have HO_8 := n0_
          have BK181 := n1_
          have BK182 := n2_
          have HB := n3_
          clear n0_ n1_ n2_ n3_
          obtain ⟨Ao56, co56, eo56⟩ := Kd.R_slice HO_8.out
          (first | subst eo56 | (injection eo56 with f1_ f2_ f3_; have f4_ := f1_.symm; have f5_ := f3_.symm; clear f1_ f2_ f3_; subst f4_; subst f5_))
          have q55 : (a0_0 : Int) ≤ ((x8_36.length : Int) : Int) := od_
          obtain ⟨i055, hi055, _, hsz55, _⟩ := info_parts info3
          have hroom55 : x8_36.length ≤ co56 := (Kd.R_reads' HO_8.out).2.1
          have hC55 : Kd.C (Kd.int .i64) _ Ao56 x8_36.length x8_36 := (Kd.R_reads' HO_8.out).2.2
          have hcut55 := cut_to (P := Try.prog) 25 3 .i64 Try.underlying25 hi055 Ao56 x8_36.length co56 a0_0 (od_) q55 hroom55
          have hr55 := Kd.C_take (m := (a0_0 : Int).toNat) hC55 (by omega)
          have hy55 : y191.length = (a0_0 : Int).toNat := (by rw [Ny191.out, List.length_take]; omega)
          rw [← Ny191.out] at hr55
          rw [← hy55] at hcut55
          have HR194 := Aside0.mk hr55
          have HC194 := A_ (show y191.length ≤ co56 from by omega)
          clear hr55 hC55 hroom55 hi055 hsz55
          have KY55 := Aside0.mk hy55
          clear hy55
          have KL55 := A_ (show (a0_0 : Int).toNat ≤ x8_36.length from by omega)
          replace q55 := eq_true q55
          refine start_ (n := 15) (S := fun w' => w'.cell? ⟨gb181, 0, none⟩ = some (.int .i64 a0_0) ∧ w'.cell? ⟨gb181, 1, none⟩ = some (.slice A0_1 l0_1.length c0_1)) (ds := []) #[false, false, false, false, false, false, false, false, false, false, false, false, false, false, false] (by kernel_rfl) rfl rfl ⟨(blk_cell BK181.out 0).trans rfl, (blk_cell BK181.out 1).trans rfl⟩ (fun hHeld => ?_); refine with_tabW standstilllaw06_CounterJoined.tab9 standstilllaw06_CounterJoined.bits9 (fun HT_ HW_ => ?_)
          generalize wc.drew = w54 at HO_8 BK181 BK182 HB HR194 hHeld ⊢
          refine pure_ (i := 1) (N := some 76) (v := ?_) (a' := ?_) #[false, true, false, false, false, false, false, false, false, false, false, false, false, false, false] rfl rfl (any_of HT_.out (by kernel_rfl)) (fun _ _ _ h => h) (Or.inl ⟨by rfl, ?_⟩) ?_ ?_
          rotate_left
          ·intro w'
           go_simp
           with_reducible rfl
          rotate_left
          ·simp only [Act.put, sa_, sz_, ss_, i64_w, i32_w]
           rfl
          refine pure_ (i := 2) (N := some 77) (v := ?_) (a' := ?_) #[false, true, true, false, false, false, false, false, false, false, false, false, false, false, false] rfl rfl (any_of HT_.out (by kernel_rfl)) (fun _ _ _ h => h) (Or.inl ⟨by rfl, ?_⟩) ?_ ?_
          rotate_left
          ·intro w'
           go_simp
           with_reducible rfl
          rotate_left
          ·simp only [Act.put, sa_, sz_, ss_, i64_w, i32_w]
           rfl
          refine take_ (i := 0) (N := some 75) (v := ?_) (a' := ?_) #[true, true, true, false, false, false, false, false, false, false, false, false, false, false, false] rfl rfl (take_ofW HT_.out HW_.out (by kernel_rfl)) (fun _ _ _ h => h) (Or.inl ⟨by rfl, ?_⟩) hHeld ?_ ?_
          rotate_left
          ·rintro w' ⟨s0, s1⟩
           go_simp
           with_reducible rfl
          rotate_left
          ·simp only [Act.put, sa_, sz_, ss_, i64_w, i32_w]
           rfl
          refine take_ (i := 3) (N := some 78) (v := ?_) (a' := ?_) #[true, true, true, true, false, false, false, false, false, false, false, false, false, false, false] rfl rfl (take_ofW HT_.out HW_.out (by kernel_rfl)) (fun _ _ _ h => h) (Or.inl ⟨by rfl, ?_⟩) hHeld ?_ ?_
          rotate_left
          ·rintro w' ⟨s0, s1⟩
           go_simp
           with_reducible rfl
          rotate_left
          ·simp only [Act.put, sa_, sz_, ss_, i64_w, i32_w]
           rfl
          refine pure_ (i := 4) (N := some 79) (v := ?_) (a' := ?_) #[true, true, true, true, true, false, false, false, false, false, false, false, false, false, false] rfl rfl (any_of HT_.out (by kernel_rfl)) (fun _ _ _ h => h) (Or.inl ⟨by rfl, ?_⟩) ?_ ?_
          rotate_left
          ·intro w'
           go_simp
           with_reducible rfl
          rotate_left
          ·simp only [Act.put, sa_, sz_, ss_, i64_w, i32_w]
           rfl
          refine pure_ (i := 5) (N := some 80) (v := ?_) (a' := ?_) #[true, true, true, true, true, true, false, false, false, false, false, false, false, false, false] rfl rfl (any_of HT_.out (by kernel_rfl)) (fun _ _ _ h => h) (Or.inl ⟨by rfl, ?_⟩) ?_ ?_
          rotate_left
          ·intro w'
           go_simp
           with_reducible rfl
          rotate_left
          ·simp only [Act.put, sa_, sz_, ss_, i64_w, i32_w]
           rfl
          refine join_ (σ := Value × Nat) 3 #[true, true, true, true, true, true, true, true, true, true, true, true, false, false, false] (fun s_ => [(81, .tuple #[.agg #[.int .i64 t195, s_.1], .int .i64 t199, .int .i64 t200]), (10, .pointer (some ⟨s_.2, 0, none⟩)), (74, .tuple #[.agg #[.int .i64 t195, s_.1], .int .i64 t199, .int .i64 t200]), (82, .agg #[.int .i64 t195, s_.1]), (83, .int .i64 t199), (84, .int .i64 t200)]) (fun s_ w' => (w'.cell? ⟨gb181, 0, none⟩ = some (.int .i64 a0_0) ∧ w'.cell? ⟨gb181, 1, none⟩ = some (.slice A0_1 l0_1.length c0_1)) ∧ (Kd.R (Kd.int .i64) 3 w' w.heap.size (fun k_ => some k_ ≠ (.slice Ao56 x8_36.length co56 : Value).ownBlock) s_.1 t196) ∧ (Kd.R (Kd.int .i64) 3 w' w.heap.size (fun k_ => some k_ ≠ (s_.1 : Value).ownBlock) (.slice Ao56 x8_36.length co56) x8_36) ∧ (w'.heap[gb181]? = some (.cells #[.int .i64 a0_0, .slice A0_1 l0_1.length c0_1] 24 (0, 0))) ∧ (w'.heap[gb182]? = some (.cells #[.int .i64 a1_0, .slice A1_1 l1_1.length c1_1] 24 (0, 0))) ∧ (w'.heap[s_.2]? = some (.cells #[.int .i64 0, .slice none 0 0] 27 (0, 0))) ∧ (w.heap.size ≤ s_.2) ∧ (w.heap.size ≤ s_.2) ∧ (gb181 ≠ s_.2) ∧ (s_.2 ≠ gb181) ∧ (gb182 ≠ s_.2) ∧ (s_.2 ≠ gb182) ∧ (Below w.heap.size w w')) ?_ ?_
          rotate_left
          ·intro hCont
           refine two_ (i := 6) (j := 11) (Ni := some 81) (Nj := some 10) #[true, true, true, true, true, true, true, false, false, false, false, false, false, false, false] #[true, true, true, true, true, true, false, false, false, false, false, true, false, false, false] rfl rfl rfl rfl (two_of HT_.out (by kernel_rfl)) (by decide) (by decide) (fun K hK => ?_) (fun K hK => ?_)
           ·skip
            refine goes_ Try.func11 (by kernel_rfl) rfl #[.agg #[.int .i64 a0_0, .slice A0_1 l0_1.length c0_1], .agg #[.int .i64 0, .slice Ao56 y191.length co56], .int .i64 3000] (by rfl) rfl rfl gl_ ?_
            with_reducible refine (counter_Run.calls kj36 a0_0 _ _ l0_1 0 _ _ y191 3000 t195 t196 t199 t200 _ ?side1 ?side2 ?side3 ?side4 A52.out).mono ?_
            (case side1 => exact ck_ (Kd.C_below HR0_1.out HB.out))
            (case side2 => exact HC0_1.out)
            (case side3 => repeat (first | exact (by repeat (first | (with_reducible exact HR194.out) | (with_reducible refine Kd.C_alloc ?_ _) | (with_reducible refine Kd.C_drewN ?_ _) | (with_reducible refine Kd.C_drew ?_) | exact HR194.out)) | (with_reducible refine Kd.C_alloc ?_ _) | (with_reducible refine Kd.C_drewN ?_ _) | (with_reducible refine Kd.C_drew ?_)))
            (case side4 => exact HC194.out)
            rintro e w57 ⟨v197, rfl, ho0, hb⟩
            refine ⟨_, rfl, ?_⟩
            have n0_ := A_ (Kd.R_elder' (rk_ HO_8.out) (Kd.R_base ho0) hb)
            have n1_ := A_ (Kd.R_lower (Kd.R_new' ho0 (Kd.R_lt (rk_ HO_8.out))) (below_size (bk_ HB.out)))
            have n2_ := A_ (blk_below (pk_ BK181.out) hb)
            have n3_ := A_ (blk_below (pk_ BK182.out) hb)
            have n4_ := A_ (Kd.C_below (by repeat (first | (with_reducible exact HR194.out) | (with_reducible refine Kd.C_alloc ?_ _) | (with_reducible refine Kd.C_drewN ?_ _) | (with_reducible refine Kd.C_drew ?_) | exact HR194.out)) hb)
            have n5_ := A_ (below_step (bk_ HB.out) hb)
            clear HO_8 BK181 BK182 HR194 HB
            have HO_8 := n0_
            have HO198 := n1_
            have BK181 := n2_
            have BK182 := n3_
            have HR194 := n4_
            have HB := n5_
            clear n0_ n1_ n2_ n3_ n4_ n5_
            (try clear hb)
            (try clear hb2)
            (try clear hk)
            (try clear hi)
            (try clear ho0)
            refine hK.out _ _ ⟨(blk_cell BK181.out 0).trans rfl, (blk_cell BK181.out 1).trans rfl⟩ (fun hHeld => ?_)
            clear hK K
            refine norm_ (a' := ?_) ?_ ?_
            rotate_left
            ·show Act.put _ (some 81) _ = _
             simp only [Act.put, sa_, sz_, ss_, i64_w, i32_w]
             rfl
            refine pure_ (i := 7) (N := some 74) (v := ?_) (a' := ?_) #[true, true, true, true, true, true, true, true, false, false, false, false, false, false, false] rfl rfl (any_of HT_.out (by kernel_rfl)) (fun _ _ _ h => h) (Or.inl ⟨by rfl, ?_⟩) ?_ ?_
            rotate_left
            ·intro w'
             go_simp
             with_reducible rfl
            rotate_left
            ·simp only [Act.put, sa_, sz_, ss_, i64_w, i32_w]
             rfl
            refine pure_ (i := 8) (N := some 82) (v := ?_) (a' := ?_) #[true, true, true, true, true, true, true, true, true, false, false, false, false, false, false] rfl rfl (any_of HT_.out (by kernel_rfl)) (fun _ _ _ h => h) (Or.inl ⟨by rfl, ?_⟩) ?_ ?_
            rotate_left
            ·intro w'
             go_simp
             with_reducible rfl
            rotate_left
            ·simp only [Act.put, sa_, sz_, ss_, i64_w, i32_w]
             rfl
            refine pure_ (i := 9) (N := some 83) (v := ?_) (a' := ?_) #[true, true, true, true, true, true, true, true, true, true, false, false, false, false, false] rfl rfl (any_of HT_.out (by kernel_rfl)) (fun _ _ _ h => h) (Or.inl ⟨by rfl, ?_⟩) ?_ ?_
            rotate_left
            ·intro w'
             go_simp
             with_reducible rfl
            rotate_left
            ·simp only [Act.put, sa_, sz_, ss_, i64_w, i32_w]
             rfl
            refine pure_ (i := 10) (N := some 84) (v := ?_) (a' := ?_) #[true, true, true, true, true, true, true, true, true, true, true, false, false, false, false] rfl rfl (any_of HT_.out (by kernel_rfl)) (fun _ _ _ h => h) (Or.inl ⟨by rfl, ?_⟩) ?_ ?_
            rotate_left
            ·intro w'
             go_simp
             with_reducible rfl
            rotate_left
            ·simp only [Act.put, sa_, sz_, ss_, i64_w, i32_w]
             rfl
            refine one_ (i := 11) (N := some 10) #[true, true, true, true, true, true, true, true, true, true, true, true, false, false, false] rfl rfl (one_of HT_.out (by kernel_rfl)) (by decide) (fun K hK => ?_)
            refine box_step ?hg (N := 10) ?hd (cs := #[.int .i64 0, .slice none 0 0]) (t := 27) ?hr ?_; (case hd => rfl); (case hg => rfl); (case hr => first | (go_simp; done) | (go_simp; rfl))
            intro gb201 hg w58 hbox hb
            have n0_ := A_ (Kd.R_below (rk_ HO_8.out) hb)
            have n1_ := A_ (Kd.R_below (rk_ HO198.out) hb)
            have n2_ := A_ (blk_below (pk_ BK181.out) hb)
            have n3_ := A_ (blk_below (pk_ BK182.out) hb)
            have n4_ := A_ (Kd.C_below (by repeat (first | (with_reducible exact HR194.out) | (with_reducible refine Kd.C_alloc ?_ _) | (with_reducible refine Kd.C_drewN ?_ _) | (with_reducible refine Kd.C_drew ?_) | exact HR194.out)) hb)
            have n5_ := A_ (below_step (bk_ HB.out) hb)
            have n6_ := A_ (hbox)
            have n7_ := A_ ((by rw [hg]; exact (below_size (bk_ HB.out)) : w.heap.size ≤ gb201))
            have n8_ := A_ ((by rw [hg]; exact (below_size (bk_ HB.out)) : w.heap.size ≤ gb201))
            have n9_ := A_ ((by rw [hg]; exact Nat.ne_of_lt (blk_lt (pk_ BK181.out)) : gb181 ≠ gb201))
            have n10_ := A_ ((by rw [hg]; exact Nat.ne_of_gt (blk_lt (pk_ BK181.out)) : gb201 ≠ gb181))
            have n11_ := A_ ((by rw [hg]; exact Nat.ne_of_lt (blk_lt (pk_ BK182.out)) : gb182 ≠ gb201))
            have n12_ := A_ ((by rw [hg]; exact Nat.ne_of_gt (blk_lt (pk_ BK182.out)) : gb201 ≠ gb182))
            clear HO_8 HO198 BK181 BK182 HR194 HB
            have HO_8 := n0_
            have HO198 := n1_
            have BK181 := n2_
            have BK182 := n3_
            have HR194 := n4_
            have HB := n5_
            have BK201 := n6_
            have GW201 := n7_
            have GE201 := n8_
            have NB181_201 := n9_
            have NB201_181 := n10_
            have NB182_201 := n11_
            have NB201_182 := n12_
            clear n0_ n1_ n2_ n3_ n4_ n5_ n6_ n7_ n8_ n9_ n10_ n11_ n12_ hb hbox hg
            refine hK.out _ _ ⟨(blk_cell BK181.out 0).trans rfl, (blk_cell BK181.out 1).trans rfl⟩ (fun hHeld => ?_)
            clear hK K
            refine norm_ (a' := ?_) ?_ ?_
            rotate_left
            ·show Act.put _ (some 10) _ = _
             simp only [Act.put, sa_, sz_, ss_, i64_w, i32_w]
             rfl
            exact norm_ (by simp only [putAll, Act.put, List.setIfInBounds_toArray, List.set_cons_zero, List.set_cons_succ]) (hCont (v197, gb201) _ ⟨hHeld, (by (with_reducible repeat (first | apply Kd.R_alloc | apply Kd.R_drewN | apply Kd.R_drew)); exact Kd.R_mono HO198.out (fun _ hk => hk.2)), (by (with_reducible repeat (first | apply Kd.R_alloc | apply Kd.R_drewN | apply Kd.R_drew)); exact Kd.R_mono HO_8.out (fun _ hk => hk.2)), (pk_ BK181.out), (pk_ BK182.out), (pk_ BK201.out), GW201.out, GE201.out, NB181_201.out, NB201_181.out, NB182_201.out, NB201_182.out, (bk_ HB.out)⟩)
           ·skip
            refine box_step ?hg (N := 10) ?hd (cs := #[.int .i64 0, .slice none 0 0]) (t := 27) ?hr ?_; (case hd => rfl); (case hg => rfl); (case hr => first | (go_simp; done) | (go_simp; rfl))
            intro gb201 hg w57 hbox hb
            have n0_ := A_ (Kd.R_below (rk_ HO_8.out) hb)
            have n1_ := A_ (blk_below (pk_ BK181.out) hb)
            have n2_ := A_ (blk_below (pk_ BK182.out) hb)
            have n3_ := A_ (Kd.C_below (by repeat (first | (with_reducible exact HR194.out) | (with_reducible refine Kd.C_alloc ?_ _) | (with_reducible refine Kd.C_drewN ?_ _) | (with_reducible refine Kd.C_drew ?_) | exact HR194.out)) hb)
            have n4_ := A_ (below_step (bk_ HB.out) hb)
            have n5_ := A_ (hbox)
            have n6_ := A_ ((by rw [hg]; exact (below_size (bk_ HB.out)) : w.heap.size ≤ gb201))
            have n7_ := A_ ((by rw [hg]; exact (below_size (bk_ HB.out)) : w.heap.size ≤ gb201))
            have n8_ := A_ ((by rw [hg]; exact Nat.ne_of_lt (blk_lt (pk_ BK181.out)) : gb181 ≠ gb201))
            have n9_ := A_ ((by rw [hg]; exact Nat.ne_of_gt (blk_lt (pk_ BK181.out)) : gb201 ≠ gb181))
            have n10_ := A_ ((by rw [hg]; exact Nat.ne_of_lt (blk_lt (pk_ BK182.out)) : gb182 ≠ gb201))
            have n11_ := A_ ((by rw [hg]; exact Nat.ne_of_gt (blk_lt (pk_ BK182.out)) : gb201 ≠ gb182))
            clear HO_8 BK181 BK182 HR194 HB
            have HO_8 := n0_
            have BK181 := n1_
            have BK182 := n2_
            have HR194 := n3_
            have HB := n4_
            have BK201 := n5_
            have GW201 := n6_
            have GE201 := n7_
            have NB181_201 := n8_
            have NB201_181 := n9_
            have NB182_201 := n10_
            have NB201_182 := n11_
            clear n0_ n1_ n2_ n3_ n4_ n5_ n6_ n7_ n8_ n9_ n10_ n11_ hb hbox hg
            refine hK.out _ _ ⟨(blk_cell BK181.out 0).trans rfl, (blk_cell BK181.out 1).trans rfl⟩ (fun hHeld => ?_)
            clear hK K
            refine norm_ (a' := ?_) ?_ ?_
            rotate_left
            ·show Act.put _ (some 10) _ = _
             simp only [Act.put, sa_, sz_, ss_, i64_w, i32_w]
             rfl
            refine one_ (i := 6) (N := some 81) #[true, true, true, true, true, true, true, false, false, false, false, true, false, false, false] rfl rfl (one_of HT_.out (by kernel_rfl)) (by decide) (fun K hK => ?_)
            refine goes_ Try.func11 (by kernel_rfl) rfl #[.agg #[.int .i64 a0_0, .slice A0_1 l0_1.length c0_1], .agg #[.int .i64 0, .slice Ao56 y191.length co56], .int .i64 3000] (by rfl) rfl rfl gl_ ?_
            with_reducible refine (counter_Run.calls kj36 a0_0 _ _ l0_1 0 _ _ y191 3000 t195 t196 t199 t200 _ ?side1 ?side2 ?side3 ?side4 A52.out).mono ?_
            (case side1 => exact ck_ (Kd.C_below HR0_1.out HB.out))
            (case side2 => exact HC0_1.out)
            (case side3 => repeat (first | exact (by repeat (first | (with_reducible exact HR194.out) | (with_reducible refine Kd.C_alloc ?_ _) | (with_reducible refine Kd.C_drewN ?_ _) | (with_reducible refine Kd.C_drew ?_) | exact HR194.out)) | (with_reducible refine Kd.C_alloc ?_ _) | (with_reducible refine Kd.C_drewN ?_ _) | (with_reducible refine Kd.C_drew ?_)))
            (case side4 => exact HC194.out)
            rintro e w58 ⟨v197, rfl, ho0, hb⟩
            refine ⟨_, rfl, ?_⟩
            have n0_ := A_ (Kd.R_elder' (rk_ HO_8.out) (Kd.R_base ho0) hb)
            have n1_ := A_ (Kd.R_lower (Kd.R_new' ho0 (Kd.R_lt (rk_ HO_8.out))) (below_size (bk_ HB.out)))
            have n2_ := A_ (blk_below (pk_ BK181.out) hb)
            have n3_ := A_ (blk_below (pk_ BK182.out) hb)
            have n4_ := A_ (Kd.C_below (by repeat (first | (with_reducible exact HR194.out) | (with_reducible refine Kd.C_alloc ?_ _) | (with_reducible refine Kd.C_drewN ?_ _) | (with_reducible refine Kd.C_drew ?_) | exact HR194.out)) hb)
            have n5_ := A_ (blk_below (pk_ BK201.out) hb)
            have n6_ := A_ (below_step (bk_ HB.out) hb)
            clear HO_8 BK181 BK182 HR194 BK201 HB
            have HO_8 := n0_
            have HO198 := n1_
            have BK181 := n2_
            have BK182 := n3_
            have HR194 := n4_
            have BK201 := n5_
            have HB := n6_
            clear n0_ n1_ n2_ n3_ n4_ n5_ n6_
            (try clear hb)
            (try clear hb2)
            (try clear hk)
            (try clear hi)
            (try clear ho0)
            refine hK.out _ _ ⟨(blk_cell BK181.out 0).trans rfl, (blk_cell BK181.out 1).trans rfl⟩ (fun hHeld => ?_)
            clear hK K
            refine norm_ (a' := ?_) ?_ ?_
            rotate_left
            ·show Act.put _ (some 81) _ = _
             simp only [Act.put, sa_, sz_, ss_, i64_w, i32_w]
             rfl
            refine pure_ (i := 7) (N := some 74) (v := ?_) (a' := ?_) #[true, true, true, true, true, true, true, true, false, false, false, true, false, false, false] rfl rfl (any_of HT_.out (by kernel_rfl)) (fun _ _ _ h => h) (Or.inl ⟨by rfl, ?_⟩) ?_ ?_
            rotate_left
            ·intro w'
             go_simp
             with_reducible rfl
            rotate_left
            ·simp only [Act.put, sa_, sz_, ss_, i64_w, i32_w]
             rfl
            refine pure_ (i := 8) (N := some 82) (v := ?_) (a' := ?_) #[true, true, true, true, true, true, true, true, true, false, false, true, false, false, false] rfl rfl (any_of HT_.out (by kernel_rfl)) (fun _ _ _ h => h) (Or.inl ⟨by rfl, ?_⟩) ?_ ?_
            rotate_left
            ·intro w'
             go_simp
             with_reducible rfl
            rotate_left
            ·simp only [Act.put, sa_, sz_, ss_, i64_w, i32_w]
             rfl
            refine pure_ (i := 9) (N := some 83) (v := ?_) (a' := ?_) #[true, true, true, true, true, true, true, true, true, true, false, true, false, false, false] rfl rfl (any_of HT_.out (by kernel_rfl)) (fun _ _ _ h => h) (Or.inl ⟨by rfl, ?_⟩) ?_ ?_
            rotate_left
            ·intro w'
             go_simp
             with_reducible rfl
            rotate_left
            ·simp only [Act.put, sa_, sz_, ss_, i64_w, i32_w]
             rfl
            refine pure_ (i := 10) (N := some 84) (v := ?_) (a' := ?_) #[true, true, true, true, true, true, true, true, true, true, true, true, false, false, false] rfl rfl (any_of HT_.out (by kernel_rfl)) (fun _ _ _ h => h) (Or.inl ⟨by rfl, ?_⟩) ?_ ?_
            rotate_left
            ·intro w'
             go_simp
             with_reducible rfl
            rotate_left
            ·simp only [Act.put, sa_, sz_, ss_, i64_w, i32_w]
             rfl
            exact norm_ (by simp only [putAll, Act.put, List.setIfInBounds_toArray, List.set_cons_zero, List.set_cons_succ]) (hCont (v197, gb201) _ ⟨hHeld, (by (with_reducible repeat (first | apply Kd.R_alloc | apply Kd.R_drewN | apply Kd.R_drew)); exact Kd.R_mono HO198.out (fun _ hk => hk.2)), (by (with_reducible repeat (first | apply Kd.R_alloc | apply Kd.R_drewN | apply Kd.R_drew)); exact Kd.R_mono HO_8.out (fun _ hk => hk.2)), (pk_ BK181.out), (pk_ BK182.out), (pk_ BK201.out), GW201.out, GE201.out, NB181_201.out, NB201_181.out, NB182_201.out, NB201_182.out, (bk_ HB.out)⟩)
          rintro ⟨v197, gb201⟩ w59 ⟨hS_, h0_, h1_, h2_, h3_, h4_, h5_, h6_, h7_, h8_, h9_, h10_, h11_⟩
          have n0_ : Aside0 (Kd.R (Kd.int .i64) 3 w59 w.heap.size (fun k_ => some k_ ≠ (.slice Ao56 x8_36.length co56 : Value).ownBlock) v197 t196) := ⟨h0_⟩
          have n1_ : Aside0 (Kd.R (Kd.int .i64) 3 w59 w.heap.size (fun k_ => some k_ ≠ (v197 : Value).ownBlock) (.slice Ao56 x8_36.length co56) x8_36) := ⟨h1_⟩
          have n2_ : Aside0 (w59.heap[gb181]? = some (.cells #[.int .i64 a0_0, .slice A0_1 l0_1.length c0_1] 24 (0, 0))) := ⟨h2_⟩
          have n3_ : Aside0 (w59.heap[gb182]? = some (.cells #[.int .i64 a1_0, .slice A1_1 l1_1.length c1_1] 24 (0, 0))) := ⟨h3_⟩
          have n4_ : Aside0 (w59.heap[gb201]? = some (.cells #[.int .i64 0, .slice none 0 0] 27 (0, 0))) := ⟨h4_⟩
          have n5_ : Aside0 (w.heap.size ≤ gb201) := ⟨h5_⟩
          have n6_ : Aside0 (w.heap.size ≤ gb201) := ⟨h6_⟩
          have n7_ : Aside0 (gb181 ≠ gb201) := ⟨h7_⟩
          have n8_ : Aside0 (gb201 ≠ gb181) := ⟨h8_⟩
          have n9_ : Aside0 (gb182 ≠ gb201) := ⟨h9_⟩
          have n10_ : Aside0 (gb201 ≠ gb182) := ⟨h10_⟩
          have n11_ : Aside0 (Below w.heap.size w w59) := ⟨h11_⟩
          clear HO_8 BK181 BK182 HB h0_ h1_ h2_ h3_ h4_ h5_ h6_ h7_ h8_ h9_ h10_ h11_
          have HO198 := n0_
          have HO_8 := n1_
          have BK181 := n2_
          have BK182 := n3_
          have BK201 := n4_
          have GW201 := n5_
          have GE201 := n6_
          have NB181_201 := n7_
          have NB201_181 := n8_
          have NB182_201 := n9_
          have NB201_182 := n10_
          have HB := n11_
          clear n0_ n1_ n2_ n3_ n4_ n5_ n6_ n7_ n8_ n9_ n10_ n11_
          have hHeld : w59.cell? ⟨gb181, 0, none⟩ = some (.int .i64 a0_0) ∧ w59.cell? ⟨gb181, 1, none⟩ = some (.slice A0_1 l0_1.length c0_1) := hS_
          obtain ⟨Ao61, co61, eo61⟩ := Kd.R_slice HO198.out
          (first | subst eo61 | (injection eo61 with f1_ f2_ f3_; have f4_ := f1_.symm; have f5_ := f3_.symm; clear f1_ f2_ f3_; subst f4_; subst f5_))
          refine norm_ (a' := ?_) ?_ ?_
          rotate_left
          ·simp only [putAll, Act.put, List.setIfInBounds_toArray, List.set_cons_zero, List.set_cons_succ]
           rfl
          refine one_ (i := 12) (N := none) #[true, true, true, true, true, true, true, true, true, true, true, true, true, false, false] rfl rfl (one_of HT_.out (by kernel_rfl)) (by decide) (fun K hK => ?_)
          have hs60 : w59.cell? ⟨gb201, 0, none⟩ = some (.int .i64 0) := (blk_cell BK201.out 0).trans rfl
          have hfs60 := blk_frozen BK201.out 0
          have hns60_0 := NB181_201.out
          have hns60_1 := NB182_201.out
          have hms60_0 := NB201_181.out
          have hms60_1 := NB201_182.out
          have hs62 : w59.cell? ⟨gb201, 1, none⟩ = some (.slice none 0 0) := (blk_cell BK201.out 1).trans rfl
          have hfs62 := blk_frozen BK201.out 1
          have hns62_0 := NB181_201.out
          have hns62_1 := NB182_201.out
          have hms62_0 := NB201_181.out
          have hms62_1 := NB201_182.out
          refine skip_ (w1 := ?_) (by rfl) rfl ?_ ?_
          rotate_left
          ·go_simp
           rfl
          refine hK.out _ _ ⟨((cell_far (p := ⟨gb201, _, none⟩) NB181_201.out _).trans (((cell_far (p := ⟨gb201, _, none⟩) NB181_201.out _).trans (hHeld.1)))), ((cell_far (p := ⟨gb201, _, none⟩) NB181_201.out _).trans (((cell_far (p := ⟨gb201, _, none⟩) NB181_201.out _).trans (hHeld.2))))⟩ (fun hHeld => ?_)
          clear hK K
          refine pure_ (i := 13) (N := some 11) (v := ?_) (a' := ?_) #[true, true, true, true, true, true, true, true, true, true, true, true, true, true, false] rfl rfl (any_of HT_.out (by kernel_rfl)) (fun _ _ _ h => h) (Or.inl ⟨by rfl, ?_⟩) ?_ ?_
          rotate_left
          ·intro w'
           go_simp
           with_reducible rfl
          rotate_left
          ·simp only [Act.put, sa_, sz_, ss_, i64_w, i32_w]
           rfl
          refine pure_ (i := 14) (N := some 12) (v := ?_) (a' := ?_) #[true, true, true, true, true, true, true, true, true, true, true, true, true, true, true] rfl rfl (any_of HT_.out (by kernel_rfl)) (fun _ _ _ h => h) (Or.inl ⟨by rfl, ?_⟩) ?_ ?_
          rotate_left
          ·intro w'
           go_simp
           with_reducible rfl
          rotate_left
          ·simp only [Act.put, sa_, sz_, ss_, i64_w, i32_w]
           rfl
          refine done_ (done_of HT_.out (by kernel_rfl)) ?_
          go_upto_region 10 with (fail)
          go_cut [92] (fun v92 wc => ∃ (kq : Nat) (x92_52 : Bool), v92 = .bool x92_52 ∧ Aside0 (standstilllaw06_CounterJoined.j3 kq x8_36 t199 t200 x92_52 a0_0 l0_1 a1_0 l1_1 t195 t196 = some r) ∧ Aside0 (kq ≤ kj36) ∧ Aside0 (Kd.R (Kd.int .i64) 3 wc w.heap.size (fun k_ => some k_ ≠ ((.slice Ao61 t196.length co61) : Value).ownBlock) (.slice Ao56 x8_36.length co56) x8_36) ∧ Aside0 (Kd.R (Kd.int .i64) 3 wc w.heap.size (fun k_ => some k_ ≠ ((.slice Ao56 x8_36.length co56) : Value).ownBlock) (.slice Ao61 t196.length co61) t196) ∧ Aside0 (wc.heap[gb181]? = some (.cells #[.int .i64 a0_0, (.slice A0_1 l0_1.length c0_1)] 24 (0, 0))) ∧ Aside0 (wc.heap[gb182]? = some (.cells #[.int .i64 a1_0, (.slice A1_1 l1_1.length c1_1)] 24 (0, 0))) ∧ Aside0 (wc.heap[gb201]? = some (.cells #[.int .i64 t195, (.slice Ao61 t196.length co61)] 27 (0, 0))) ∧ Aside0 (Below w.heap.size w wc))
          case first => as_aux_lemma =>
           have H := HC53.out
           clear HC53
           by_cases c63 : t200 = 0
           ·rw [if_pos c63] at H
            have c63b0 : (t200 == 0) = true := beq_iff_eq.mpr c63
            have c63b1 : (t200 != 0) = false := bne_eq_false_iff_eq.mpr c63
            clear c63
            (first | rw [c63b0] | (simp only [i64_w, i32_w]; rw [c63b0]) | skip)
            replace H := Option.bind_eq_some_iff.mp H
            obtain ⟨t202, A640, H⟩ := H
            replace H : (standstilllaw06_CounterJoined.j3 kj36 x8_36 t199 t200 (!t202) a0_0 l0_1 a1_0 l1_1 t195 t196) = some r := H
            have A64 := Aside0.mk A640
            clear A640
            have H' := Aside0.mk H
            clear H
            have hnb65 := NB181_182.out
            have hnc65 := NB182_181.out
            have hnb66 := NB181_201.out
            have hnc66 := NB201_181.out
            have hcz67_0 : w59.cell? ⟨gb181, 0, none⟩ = some (.int .i64 a0_0) := (blk_cell BK181.out 0).trans rfl
            have hcz67_1 : w59.cell? ⟨gb181, 1, none⟩ = some (.slice A0_1 l0_1.length c0_1) := (blk_cell BK181.out 1).trans rfl
            have hfz67_0 := blk_frozen BK181.out 0
            have hfz67_1 := blk_frozen BK181.out 1
            have hnb68 := NB201_182.out
            have hnc68 := NB182_201.out
            have hcz69_0 : w59.cell? ⟨gb201, 0, none⟩ = some (.int .i64 0) := (blk_cell BK201.out 0).trans rfl
            have hcz69_1 : w59.cell? ⟨gb201, 1, none⟩ = some (.slice none 0 0) := (blk_cell BK201.out 1).trans rfl
            have hfz69_0 := blk_frozen BK201.out 0
            have hfz69_1 := blk_frozen BK201.out 1
            go_wp2_with (first | (go_at_call 9; (with_reducible refine (standstillref06_Fits.calls kj36 a0_0 _ _ l0_1 t195 _ _ t196 t202 _ ?side1 ?side2 ?side3 ?side4 A64.out).mono ?_); (case side1 => exact Kd.C_below HR0_1.out (bk_ HB.out)); (case side2 => exact HC0_1.out); (case side3 => refine (Kd.R_reads' (e := 3) (base := w.heap.size) (ok := fun k_ => some k_ ≠ (.slice Ao56 x8_36.length co56 : Value).ownBlock) (n := t196.length) (c := co61) ?_).2.2; exact (by (with_reducible repeat (first | apply Kd.R_alloc | apply Kd.R_drewN | apply Kd.R_drew)); exact (Kd.R_mono (Kd.R_far (p := ⟨gb201, 1, none⟩) (Kd.R_far (p := ⟨gb201, 0, none⟩) (Kd.R_types HO198.out BK201.out (by decide)) (fun _ hk => hk.2) (.int .i64 t195)) (fun _ hk => hk.2) (.slice Ao61 t196.length co61)) (fun _ h_ => h_.1)))); (case side4 => exact (Kd.R_reads' HO198.out).2.1); rintro e w70 ⟨rfl, hb⟩; have n0_ := A_ (Kd.R_below (by (with_reducible repeat (first | apply Kd.R_alloc | apply Kd.R_drewN | apply Kd.R_drew)); exact (Kd.R_mono (Kd.R_far (p := ⟨gb201, 1, none⟩) (Kd.R_far (p := ⟨gb201, 0, none⟩) (Kd.R_types HO_8.out BK201.out (by decide)) (fun _ hk => hk.2) (.int .i64 t195)) (fun _ hk => hk.2) (.slice Ao61 t196.length co61)) (fun _ h_ => h_.1))) hb); have n1_ := A_ (Kd.R_below (by (with_reducible repeat (first | apply Kd.R_alloc | apply Kd.R_drewN | apply Kd.R_drew)); exact (Kd.R_mono (Kd.R_far (p := ⟨gb201, 1, none⟩) (Kd.R_far (p := ⟨gb201, 0, none⟩) (Kd.R_types HO198.out BK201.out (by decide)) (fun _ hk => hk.2) (.int .i64 t195)) (fun _ hk => hk.2) (.slice Ao61 t196.length co61)) (fun _ h_ => h_.1))) hb); have n2_ := A_ (blk_below (g := gb181) (o := .cells #[.int .i64 a0_0, .slice A0_1 l0_1.length c0_1] 24 (0, 0)) (by refine pk_ ?_; refine blk_far ?_ NB181_201.out _; refine pk_ ?_; refine blk_far ?_ NB181_201.out _; exact pk_ BK181.out) hb); have n3_ := A_ (blk_below (g := gb182) (o := .cells #[.int .i64 a1_0, .slice A1_1 l1_1.length c1_1] 24 (0, 0)) (by refine pk_ ?_; refine blk_far ?_ NB182_201.out _; refine pk_ ?_; refine blk_far ?_ NB182_201.out _; exact pk_ BK182.out) hb); have n4_ := A_ (blk_below (g := gb201) (o := .cells #[.int .i64 t195, .slice Ao61 t196.length co61] 27 (0, 0)) (by refine pk_ ?_; refine blk_put (cs := #[.int .i64 t195, .slice none 0 0]) ?_ 1 _ rfl; refine pk_ ?_; refine blk_put (cs := #[.int .i64 0, .slice none 0 0]) ?_ 0 _ rfl; exact pk_ BK201.out) hb); have n5_ := A_ (below_step (bk_ HB.out) hb); clear HO_8 HO198 BK181 BK182 BK201 HB; have HO_8 := n0_; have HO198 := n1_; have BK181 := n2_; have BK182 := n3_; have BK201 := n4_; have HB := n5_; clear n0_ n1_ n2_ n3_ n4_ n5_; (try clear hb); (try clear hb2); (try clear hk); (try clear hi)))
            go_meet
            case rel => exact ⟨_, (!t202), jr_, H', ⟨by have := HJ3.out; have := HJ36.out; first | omega | exact Nat.le_refl _⟩, ⟨rk_ HO_8.out⟩, ⟨rk_ HO198.out⟩, ⟨pk_ BK181.out⟩, ⟨pk_ BK182.out⟩, ⟨pk_ BK201.out⟩, ⟨bk_ HB.out⟩⟩
           ·rw [if_neg c63] at H
            have c63b0 : (t200 == 0) = false := beq_eq_false_iff_ne.mpr c63
            have c63b1 : (t200 != 0) = true := bne_iff_ne.mpr c63
            (first | rw [c63b0] | (simp only [i64_w, i32_w]; rw [c63b0]) | skip)
            have H' := Aside0.mk H
            clear H
            go_wp2
            go_meet
            case rel => exact ⟨_, (false), jr_, H', ⟨by have := HJ3.out; have := HJ36.out; first | omega | exact Nat.le_refl _⟩, ⟨by (with_reducible repeat (first | apply Kd.R_alloc | apply Kd.R_drewN | apply Kd.R_drew)); exact Kd.R_mono (Kd.R_far (p := ⟨gb201, 1, none⟩) (Kd.R_far (p := ⟨gb201, 0, none⟩) (Kd.R_types HO_8.out BK201.out (by decide)) (fun _ hk => hk.2) (.int .i64 t195)) (fun _ hk => hk.2) (.slice Ao61 t196.length co61)) (fun _ hk => hk.1)⟩, ⟨by (with_reducible repeat (first | apply Kd.R_alloc | apply Kd.R_drewN | apply Kd.R_drew)); exact Kd.R_mono (Kd.R_far (p := ⟨gb201, 1, none⟩) (Kd.R_far (p := ⟨gb201, 0, none⟩) (Kd.R_types HO198.out BK201.out (by decide)) (fun _ hk => hk.2) (.int .i64 t195)) (fun _ hk => hk.2) (.slice Ao61 t196.length co61)) (fun _ hk => hk.1)⟩, ⟨by refine pk_ ?_; refine blk_far ?_ NB181_201.out _; refine pk_ ?_; refine blk_far ?_ NB181_201.out _; exact pk_ BK181.out⟩, ⟨by refine pk_ ?_; refine blk_far ?_ NB182_201.out _; refine pk_ ?_; refine blk_far ?_ NB182_201.out _; exact pk_ BK182.out⟩, ⟨by refine pk_ ?_; refine blk_put (cs := #[.int .i64 t195, .slice none 0 0]) ?_ 1 _ rfl; refine pk_ ?_; refine blk_put (cs := #[.int .i64 0, .slice none 0 0]) ?_ 0 _ rfl; exact pk_ BK201.out⟩, ⟨bk_ HB.out⟩⟩
          case rest => as_aux_lemma =>
           clear HC53
           (try clear c2); (try clear c31); (try clear c35); (try clear c35b0); (try clear c35b1); (try clear c36); (try clear c36b0); (try clear c36b1); (try clear c50); (try clear c50b0); (try clear c50b1); (try clear c51); (try clear c51b0); (try clear c51b1); (try clear q55); (try clear hcz39_0); (try clear hcz39_1); (try clear hcz40_0); (try clear hcz40_1); (try clear hfz39_0); (try clear hfz39_1); (try clear hfz40_0); (try clear hfz40_1); (try clear q55)
           obtain ⟨kq, x92_52, rfl, HA, HJ52, HO_8, HO_202001, BK181, BK182, BK201, HB⟩ := hcut
           cases kq with
           | zero => exact absurd HA.out (by simp [standstilllaw06_CounterJoined.j3])
           | succ kj52 =>
            have H := HA.out
            clear HA
            simp only [standstilllaw06_CounterJoined.j3] at H
            by_cases c71 : x92_52 = true
            ·subst c71
             have H1 : (none) = some r := by rw [if_pos rfl] at H; exact H
             clear H
             have H := H1
             clear H1
             exact absurd H (by simp)
            ·replace c71 := Bool.eq_false_iff.mpr c71
             subst c71
             have H1 : (if t200 = 0 then (if 0 ≤ t195 then (if t195 < (l0_1.length : Int) then (if ((rd_T33 l0_1 t195).f0) = 2 then (if 0 < (t196.length : Int) then (standstilllaw06_CounterJoined.j4 kj52 x8_36 t199 (decide ((rd t196 0) ≥ 1152921504606846976)) a0_0 l0_1 a1_0 l1_1 t195 t196) else (none)) else (standstilllaw06_CounterJoined.j4 kj52 x8_36 t199 true a0_0 l0_1 a1_0 l1_1 t195 t196)) else (none)) else (none)) else (standstilllaw06_CounterJoined.j4 kj52 x8_36 t199 true a0_0 l0_1 a1_0 l1_1 t195 t196)) = some r := by rw [if_neg (show ¬ (false = true) by decide)] at H; exact H
             clear H
             have H := H1
             clear H1
             have HC72 := Aside0.mk H
             clear H
             go_upto_region 12 with (fail)
             go_cut [111] (fun v111 wc => ∃ (kq : Nat) (x111_71 : Bool), v111 = .bool x111_71 ∧ Aside0 (standstilllaw06_CounterJoined.j4 kq x8_36 t199 x111_71 a0_0 l0_1 a1_0 l1_1 t195 t196 = some r) ∧ Aside0 (kq ≤ kj52) ∧ Aside0 (Kd.R (Kd.int .i64) 3 wc w.heap.size (fun k_ => some k_ ≠ ((.slice Ao61 t196.length co61) : Value).ownBlock) (.slice Ao56 x8_36.length co56) x8_36) ∧ Aside0 (Kd.R (Kd.int .i64) 3 wc w.heap.size (fun k_ => some k_ ≠ ((.slice Ao56 x8_36.length co56) : Value).ownBlock) (.slice Ao61 t196.length co61) t196) ∧ Aside0 (wc.heap[gb181]? = some (.cells #[.int .i64 a0_0, (.slice A0_1 l0_1.length c0_1)] 24 (0, 0))) ∧ Aside0 (wc.heap[gb182]? = some (.cells #[.int .i64 a1_0, (.slice A1_1 l1_1.length c1_1)] 24 (0, 0))) ∧ Aside0 (wc.heap[gb201]? = some (.cells #[.int .i64 t195, (.slice Ao61 t196.length co61)] 27 (0, 0))) ∧ Aside0 (Below w.heap.size w wc))
             case first => as_aux_lemma =>
              have H := HC72.out
              clear HC72
              by_cases c73 : t200 = 0
              ·rw [if_pos c73] at H
               have c73b0 : (t200 == 0) = true := beq_iff_eq.mpr c73
               have c73b1 : (t200 != 0) = false := bne_eq_false_iff_eq.mpr c73
               clear c73
               (first | rw [c73b0] | (simp only [i64_w, i32_w]; rw [c73b0]) | skip)
               by_cases c74 : 0 ≤ t195
               ·rw [if_pos c74] at H
                have c74b0 : decide (0 ≤ t195) = true := decide_eq_true c74
                clear c74
                by_cases c75 : t195 < (l0_1.length : Int)
                ·rw [if_pos c75] at H
                 have c75b0 : decide (t195 < (l0_1.length : Int)) = true := decide_eq_true c75
                 clear c75
                 by_cases c76 : ((rd_T33 l0_1 t195).f0) = 2
                 ·rw [if_pos c76] at H
                  have c76b0 : (((rd_T33 l0_1 t195).f0) == 2) = true := beq_iff_eq.mpr c76
                  have c76b1 : (((rd_T33 l0_1 t195).f0) != 2) = false := bne_eq_false_iff_eq.mpr c76
                  clear c76
                  by_cases c77 : 0 < (t196.length : Int)
                  ·rw [if_pos c77] at H
                   have c77b0 : decide (0 < (t196.length : Int)) = true := decide_eq_true c77
                   have c77b1 : decide (0 < t196.length) = true := decide_eq_true (by omega)
                   clear c77
                   have H' := Aside0.mk H
                   clear H
                   have hnb78 := NB181_182.out
                   have hnc78 := NB182_181.out
                   have hnb79 := NB181_201.out
                   have hnc79 := NB201_181.out
                   have hcz80_0 : wc.cell? ⟨gb181, 0, none⟩ = some (.int .i64 a0_0) := (blk_cell BK181.out 0).trans rfl
                   have hcz80_1 : wc.cell? ⟨gb181, 1, none⟩ = some (.slice A0_1 l0_1.length c0_1) := (blk_cell BK181.out 1).trans rfl
                   have hfz80_0 := blk_frozen BK181.out 0
                   have hfz80_1 := blk_frozen BK181.out 1
                   have hnb81 := NB201_182.out
                   have hnc81 := NB182_201.out
                   have hcz82_0 : wc.cell? ⟨gb201, 0, none⟩ = some (.int .i64 t195) := (blk_cell BK201.out 0).trans rfl
                   have hcz82_1 : wc.cell? ⟨gb201, 1, none⟩ = some (.slice Ao61 t196.length co61) := (blk_cell BK201.out 1).trans rfl
                   have hfz82_0 := blk_frozen BK201.out 0
                   have hfz82_1 := blk_frozen BK201.out 1
                   have p203 : 0 ≤ (t195 : Int) := od_
                   have q203 : t195 < (l0_1.length : Int) := od_
                   obtain ⟨ad203, e203, hx203_0, hx203_1, hx203_2, hx203_3⟩ := at_T33 HR0_1.out t195 p203 q203
                   cases e203
                   replace hx203_0 := lf_ HB.out hx203_0
                   replace hx203_1 := lf_ HB.out hx203_1
                   replace hx203_2 := lf_ HB.out hx203_2
                   replace hx203_3 := lf_ HB.out hx203_3
                   replace p203 := eq_true p203
                   replace q203 := eq_true q203
                   have p204 : 0 ≤ (0 : Int) := (by omega)
                   have q204 : 0 < (t196.length : Int) := od_
                   obtain ⟨ad204, e204, hx204_0⟩ := Kd.at_int (Kd.R_reads' HO_202001.out).2.2 0 p204 q204
                   cases e204
                   have qi204 : (0 < t196.length) = True := eq_true (by omega)
                   (try rw [show ((0 : Int)).toNat = 0 from rfl] at hx204_0)
                   (try rw [Addr.add_zero'] at hx204_0)
                   replace p204 := eq_true p204
                   replace q204 := eq_true q204
                   go_wp2
                   go_meet
                   case rel => exact ⟨_, (decide ((rd t196 0) ≥ 1152921504606846976)), jr_, H', ⟨by have := HJ3.out; have := HJ36.out; have := HJ52.out; first | omega | exact Nat.le_refl _⟩, ⟨rk_ HO_8.out⟩, ⟨rk_ HO_202001.out⟩, ⟨pk_ BK181.out⟩, ⟨pk_ BK182.out⟩, ⟨pk_ BK201.out⟩, ⟨bk_ HB.out⟩⟩
                  ·rw [if_neg c77] at H
                   exact absurd H (by simp)
                 ·rw [if_neg c76] at H
                  have c76b0 : (((rd_T33 l0_1 t195).f0) == 2) = false := beq_eq_false_iff_ne.mpr c76
                  have c76b1 : (((rd_T33 l0_1 t195).f0) != 2) = true := bne_iff_ne.mpr c76
                  have H' := Aside0.mk H
                  clear H
                  have hnb83 := NB181_182.out
                  have hnc83 := NB182_181.out
                  have hnb84 := NB181_201.out
                  have hnc84 := NB201_181.out
                  have hcz85_0 : wc.cell? ⟨gb181, 0, none⟩ = some (.int .i64 a0_0) := (blk_cell BK181.out 0).trans rfl
                  have hcz85_1 : wc.cell? ⟨gb181, 1, none⟩ = some (.slice A0_1 l0_1.length c0_1) := (blk_cell BK181.out 1).trans rfl
                  have hfz85_0 := blk_frozen BK181.out 0
                  have hfz85_1 := blk_frozen BK181.out 1
                  have hnb86 := NB201_182.out
                  have hnc86 := NB182_201.out
                  have hcz87_0 : wc.cell? ⟨gb201, 0, none⟩ = some (.int .i64 t195) := (blk_cell BK201.out 0).trans rfl
                  have hcz87_1 : wc.cell? ⟨gb201, 1, none⟩ = some (.slice Ao61 t196.length co61) := (blk_cell BK201.out 1).trans rfl
                  have hfz87_0 := blk_frozen BK201.out 0
                  have hfz87_1 := blk_frozen BK201.out 1
                  have p203 : 0 ≤ (t195 : Int) := od_
                  have q203 : t195 < (l0_1.length : Int) := od_
                  obtain ⟨ad203, e203, hx203_0, hx203_1, hx203_2, hx203_3⟩ := at_T33 HR0_1.out t195 p203 q203
                  cases e203
                  replace hx203_0 := lf_ HB.out hx203_0
                  replace hx203_1 := lf_ HB.out hx203_1
                  replace hx203_2 := lf_ HB.out hx203_2
                  replace hx203_3 := lf_ HB.out hx203_3
                  replace p203 := eq_true p203
                  replace q203 := eq_true q203
                  go_wp2
                  go_meet
                  case rel => exact ⟨_, (true), jr_, H', ⟨by have := HJ3.out; have := HJ36.out; have := HJ52.out; first | omega | exact Nat.le_refl _⟩, ⟨rk_ HO_8.out⟩, ⟨rk_ HO_202001.out⟩, ⟨pk_ BK181.out⟩, ⟨pk_ BK182.out⟩, ⟨pk_ BK201.out⟩, ⟨bk_ HB.out⟩⟩
                ·rw [if_neg c75] at H
                 exact absurd H (by simp)
               ·rw [if_neg c74] at H
                exact absurd H (by simp)
              ·rw [if_neg c73] at H
               have c73b0 : (t200 == 0) = false := beq_eq_false_iff_ne.mpr c73
               have c73b1 : (t200 != 0) = true := bne_iff_ne.mpr c73
               (first | rw [c73b0] | (simp only [i64_w, i32_w]; rw [c73b0]) | skip)
               have H' := Aside0.mk H
               clear H
               go_wp2
               go_meet
               case rel => exact ⟨_, (true), jr_, H', ⟨by have := HJ3.out; have := HJ36.out; have := HJ52.out; first | omega | exact Nat.le_refl _⟩, ⟨rk_ HO_8.out⟩, ⟨rk_ HO_202001.out⟩, ⟨pk_ BK181.out⟩, ⟨pk_ BK182.out⟩, ⟨pk_ BK201.out⟩, ⟨bk_ HB.out⟩⟩
             case rest => as_aux_lemma =>
              clear HC72
              (try clear c2); (try clear c31); (try clear c35); (try clear c35b0); (try clear c35b1); (try clear c36); (try clear c36b0); (try clear c36b1); (try clear c50); (try clear c50b0); (try clear c50b1); (try clear c51); (try clear c51b0); (try clear c51b1); (try clear q55); (try clear c71); (try clear hcz39_0); (try clear hcz39_1); (try clear hcz40_0); (try clear hcz40_1); (try clear hfz39_0); (try clear hfz39_1); (try clear hfz40_0); (try clear hfz40_1); (try clear q55)
              obtain ⟨kq, x111_71, rfl, HA, HJ71, HO_8, HO_202001, BK181, BK182, BK201, HB⟩ := hcut
              cases kq with
              | zero => exact absurd HA.out (by simp [standstilllaw06_CounterJoined.j4])
              | succ kj71 =>
               have H := HA.out
               clear HA
               simp only [standstilllaw06_CounterJoined.j4] at H
               by_cases c88 : x111_71 = true
               ·subst c88
                have H1 : ((standstilllaw06_awake.f kj71).bind fun t205 => (some t205)) = some r := by rw [if_pos rfl] at H; exact H
                clear H
                have H := H1
                clear H1
                replace H := Option.bind_eq_some_iff.mp H
                obtain ⟨t205, A890, H⟩ := H
                replace H : (some t205) = some r := H
                have A89 := Aside0.mk A890
                clear A890
                obtain rfl := Option.some.inj H
                go_wp2_with (first | ((with_reducible refine gate_callee (f := 10) rfl ?_); refine goesL_ (some 112) rfl rfl Try.func10 (by kernel_rfl) rfl #[] rfl gl_ ?_; (with_reducible refine (standstilllaw06_awake.calls kj71  t205 _ A89.out).mono ?_); rintro e w90 ⟨rfl, hb⟩; refine ⟨_, rfl, ?_⟩; have n0_ := A_ (Kd.R_below (rk_ HO_8.out) hb); have n1_ := A_ (Kd.R_below (rk_ HO_202001.out) hb); have n2_ := A_ (blk_below (pk_ BK181.out) hb); have n3_ := A_ (blk_below (pk_ BK182.out) hb); have n4_ := A_ (blk_below (pk_ BK201.out) hb); have n5_ := A_ (below_step (bk_ HB.out) hb); clear HO_8 HO_202001 BK181 BK182 BK201 HB; have HO_8 := n0_; have HO_202001 := n1_; have BK181 := n2_; have BK182 := n3_; have BK201 := n4_; have HB := n5_; clear n0_ n1_ n2_ n3_ n4_ n5_; (try clear hb); (try clear hb2); (try clear hk); (try clear hi)))
                go_ret
                exact ⟨by first | rfl | (simp [errW_none, errW_some] <;> rfl) | (simp only [← hji34]; first | rfl | (simp [errW_none, errW_some] <;> rfl)) | (simp [*, errW_none, errW_some] <;> rfl), bk_ HB.out⟩
               ·replace c88 := Bool.eq_false_iff.mpr c88
                subst c88
                have H1 : ((some (([] : List Int) : List Int)).bind fun y206 => (if y206.length + t196.length < 17592186044416 then ((some (y206 ++ t196 : List Int)).bind fun y209 => (if 0 ≤ a0_0 then (if a0_0 ≤ (x8_36.length : Int) then ((some (x8_36.drop (a0_0 : Int).toNat : List Int)).bind fun y212 => (if y209.length + y212.length < 17592186044416 then ((some (y209 ++ y212 : List Int)).bind fun y216 => (if 0 ≤ a1_0 then (if a1_0 ≤ (y216.length : Int) then ((counter_Run.f kj71 a1_0 l1_1 0 (y216.take (a1_0 : Int).toNat) 3000).bind fun bt223 => (if bt223.2.2.2 = 0 then ((standstillref06_Fits.f kj71 a1_0 l1_1 bt223.1 bt223.2.1).bind fun t230 => (standstilllaw06_CounterJoined.j5 kj71 x8_36 t199 y216 bt223.2.2.1 bt223.2.2.2 (!t230) a0_0 l0_1 a1_0 l1_1 bt223.1 bt223.2.1)) else (standstilllaw06_CounterJoined.j5 kj71 x8_36 t199 y216 bt223.2.2.1 bt223.2.2.2 false a0_0 l0_1 a1_0 l1_1 bt223.1 bt223.2.1))) else (none)) else (none))) else (none))) else (none)) else (none))) else (none))) = some r := by rw [if_neg (show ¬ (false = true) by decide)] at H; exact H
                clear H
                have H := H1
                clear H1
                obtain ⟨y206, hy206⟩ : ∃ y_ : List Int, y_ = (([] : List Int)) := ⟨_, rfl⟩
                replace H : (if y206.length + t196.length < 17592186044416 then ((some (y206 ++ t196 : List Int)).bind fun y209 => (if 0 ≤ a0_0 then (if a0_0 ≤ (x8_36.length : Int) then ((some (x8_36.drop (a0_0 : Int).toNat : List Int)).bind fun y212 => (if y209.length + y212.length < 17592186044416 then ((some (y209 ++ y212 : List Int)).bind fun y216 => (if 0 ≤ a1_0 then (if a1_0 ≤ (y216.length : Int) then ((counter_Run.f kj71 a1_0 l1_1 0 (y216.take (a1_0 : Int).toNat) 3000).bind fun bt223 => (if bt223.2.2.2 = 0 then ((standstillref06_Fits.f kj71 a1_0 l1_1 bt223.1 bt223.2.1).bind fun t230 => (standstilllaw06_CounterJoined.j5 kj71 x8_36 t199 y216 bt223.2.2.1 bt223.2.2.2 (!t230) a0_0 l0_1 a1_0 l1_1 bt223.1 bt223.2.1)) else (standstilllaw06_CounterJoined.j5 kj71 x8_36 t199 y216 bt223.2.2.1 bt223.2.2.2 false a0_0 l0_1 a1_0 l1_1 bt223.1 bt223.2.1))) else (none)) else (none))) else (none))) else (none)) else (none))) else (none)) = some r := by first | (rw [hy206]; with_reducible exact H) | (have H2_ := (Option.bind_some _ _).symm.trans H; rw [hy206]; with_reducible exact H2_) | (have H2_ := (Option.bind_some _ _).symm.trans H; with_reducible exact H2_) | with_reducible exact H | (rw [hy206]; exact H) | exact H
                have Ny206 := Aside0.mk hy206
                clear hy206
                by_cases c91 : y206.length + t196.length < 17592186044416
                ·rw [if_pos c91] at H
                 have LMc91 := Aside0.mk c91
                 clear c91
                 obtain ⟨y209, hy209⟩ : ∃ y_ : List Int, y_ = (y206 ++ t196) := ⟨_, rfl⟩
                 replace H : (if 0 ≤ a0_0 then (if a0_0 ≤ (x8_36.length : Int) then ((some (x8_36.drop (a0_0 : Int).toNat : List Int)).bind fun y212 => (if y209.length + y212.length < 17592186044416 then ((some (y209 ++ y212 : List Int)).bind fun y216 => (if 0 ≤ a1_0 then (if a1_0 ≤ (y216.length : Int) then ((counter_Run.f kj71 a1_0 l1_1 0 (y216.take (a1_0 : Int).toNat) 3000).bind fun bt223 => (if bt223.2.2.2 = 0 then ((standstillref06_Fits.f kj71 a1_0 l1_1 bt223.1 bt223.2.1).bind fun t230 => (standstilllaw06_CounterJoined.j5 kj71 x8_36 t199 y216 bt223.2.2.1 bt223.2.2.2 (!t230) a0_0 l0_1 a1_0 l1_1 bt223.1 bt223.2.1)) else (standstilllaw06_CounterJoined.j5 kj71 x8_36 t199 y216 bt223.2.2.1 bt223.2.2.2 false a0_0 l0_1 a1_0 l1_1 bt223.1 bt223.2.1))) else (none)) else (none))) else (none))) else (none)) else (none)) = some r := by first | (rw [hy209]; with_reducible exact H) | (have H2_ := (Option.bind_some _ _).symm.trans H; rw [hy209]; with_reducible exact H2_) | (have H2_ := (Option.bind_some _ _).symm.trans H; with_reducible exact H2_) | with_reducible exact H | (rw [hy209]; exact H) | exact H
                 have Ny209 := Aside0.mk hy209
                 clear hy209
                 by_cases c92 : 0 ≤ a0_0
                 ·rw [if_pos c92] at H
                  have c92b0 := eq_true c92
                  have c92b1 : decide (0 ≤ a0_0) = true := decide_eq_true c92
                  clear c92
                  by_cases c93 : a0_0 ≤ (x8_36.length : Int)
                  ·rw [if_pos c93] at H
                   have c93b0 := eq_true c93
                   have c93b1 : decide (a0_0 ≤ (x8_36.length : Int)) = true := decide_eq_true c93
                   clear c93
                   obtain ⟨y212, hy212⟩ : ∃ y_ : List Int, y_ = (x8_36.drop (a0_0 : Int).toNat) := ⟨_, rfl⟩
                   replace H : (if y209.length + y212.length < 17592186044416 then ((some (y209 ++ y212 : List Int)).bind fun y216 => (if 0 ≤ a1_0 then (if a1_0 ≤ (y216.length : Int) then ((counter_Run.f kj71 a1_0 l1_1 0 (y216.take (a1_0 : Int).toNat) 3000).bind fun bt223 => (if bt223.2.2.2 = 0 then ((standstillref06_Fits.f kj71 a1_0 l1_1 bt223.1 bt223.2.1).bind fun t230 => (standstilllaw06_CounterJoined.j5 kj71 x8_36 t199 y216 bt223.2.2.1 bt223.2.2.2 (!t230) a0_0 l0_1 a1_0 l1_1 bt223.1 bt223.2.1)) else (standstilllaw06_CounterJoined.j5 kj71 x8_36 t199 y216 bt223.2.2.1 bt223.2.2.2 false a0_0 l0_1 a1_0 l1_1 bt223.1 bt223.2.1))) else (none)) else (none))) else (none)) = some r := by first | (rw [hy212]; with_reducible exact H) | (have H2_ := (Option.bind_some _ _).symm.trans H; rw [hy212]; with_reducible exact H2_) | (have H2_ := (Option.bind_some _ _).symm.trans H; with_reducible exact H2_) | with_reducible exact H | (rw [hy212]; exact H) | exact H
                   have Ny212 := Aside0.mk hy212
                   clear hy212
                   by_cases c94 : y209.length + y212.length < 17592186044416
                   ·rw [if_pos c94] at H
                    have LMc94 := Aside0.mk c94
                    clear c94
                    obtain ⟨y216, hy216⟩ : ∃ y_ : List Int, y_ = (y209 ++ y212) := ⟨_, rfl⟩
                    replace H : (if 0 ≤ a1_0 then (if a1_0 ≤ (y216.length : Int) then ((counter_Run.f kj71 a1_0 l1_1 0 (y216.take (a1_0 : Int).toNat) 3000).bind fun bt223 => (if bt223.2.2.2 = 0 then ((standstillref06_Fits.f kj71 a1_0 l1_1 bt223.1 bt223.2.1).bind fun t230 => (standstilllaw06_CounterJoined.j5 kj71 x8_36 t199 y216 bt223.2.2.1 bt223.2.2.2 (!t230) a0_0 l0_1 a1_0 l1_1 bt223.1 bt223.2.1)) else (standstilllaw06_CounterJoined.j5 kj71 x8_36 t199 y216 bt223.2.2.1 bt223.2.2.2 false a0_0 l0_1 a1_0 l1_1 bt223.1 bt223.2.1))) else (none)) else (none)) = some r := by first | (rw [hy216]; with_reducible exact H) | (have H2_ := (Option.bind_some _ _).symm.trans H; rw [hy216]; with_reducible exact H2_) | (have H2_ := (Option.bind_some _ _).symm.trans H; with_reducible exact H2_) | with_reducible exact H | (rw [hy216]; exact H) | exact H
                    have Ny216 := Aside0.mk hy216
                    clear hy216
                    by_cases c95 : 0 ≤ a1_0
                    ·rw [if_pos c95] at H
                     have c95b0 := eq_true c95
                     have c95b1 : decide (0 ≤ a1_0) = true := decide_eq_true c95
                     clear c95
                     by_cases c96 : a1_0 ≤ (y216.length : Int)
                     ·rw [if_pos c96] at H
                      have c96b0 := eq_true c96
                      have c96b1 : decide (a1_0 ≤ (y216.length : Int)) = true := decide_eq_true c96
                      clear c96
                      obtain ⟨y219, hy219⟩ : ∃ y_ : List Int, y_ = (y216.take (a1_0 : Int).toNat) := ⟨_, rfl⟩
                      replace H : ((counter_Run.f kj71 a1_0 l1_1 0 y219 3000).bind fun bt223 => (if bt223.2.2.2 = 0 then ((standstillref06_Fits.f kj71 a1_0 l1_1 bt223.1 bt223.2.1).bind fun t230 => (standstilllaw06_CounterJoined.j5 kj71 x8_36 t199 y216 bt223.2.2.1 bt223.2.2.2 (!t230) a0_0 l0_1 a1_0 l1_1 bt223.1 bt223.2.1)) else (standstilllaw06_CounterJoined.j5 kj71 x8_36 t199 y216 bt223.2.2.1 bt223.2.2.2 false a0_0 l0_1 a1_0 l1_1 bt223.1 bt223.2.1))) = some r := by first | (rw [hy219]; with_reducible exact H) | (have H2_ := (Option.bind_some _ _).symm.trans H; rw [hy219]; with_reducible exact H2_) | (have H2_ := (Option.bind_some _ _).symm.trans H; with_reducible exact H2_) | with_reducible exact H | (rw [hy219]; exact H) | exact H
                      have Ny219 := Aside0.mk hy219
                      clear hy219
                      replace H := Option.bind_eq_some_iff.mp H
                      obtain ⟨⟨t223, t224, t227, t228⟩, A970, H⟩ := H
                      replace H : (if t228 = 0 then ((standstillref06_Fits.f kj71 a1_0 l1_1 t223 t224).bind fun t230 => (standstilllaw06_CounterJoined.j5 kj71 x8_36 t199 y216 t227 t228 (!t230) a0_0 l0_1 a1_0 l1_1 t223 t224)) else (standstilllaw06_CounterJoined.j5 kj71 x8_36 t199 y216 t227 t228 false a0_0 l0_1 a1_0 l1_1 t223 t224)) = some r := H
                      have A97 := Aside0.mk A970
                      clear A970
                      have HC98 := Aside0.mk H
                      clear H
                      try go_wp2
                      have n0_ := A_ (Kd.R_drew HO_8.out)
                      have n1_ := A_ (Kd.R_drew HO_202001.out)
                      have n2_ := A_ (blk_drew BK181.out)
                      have n3_ := A_ (blk_drew BK182.out)
                      have n4_ := A_ (blk_drew BK201.out)
                      have n5_ := A_ (below_drew1 HB.out)
                      clear HO_8 HO_202001 BK181 BK182 BK201 HB
                      have HO_8 := n0_
                      have HO_202001 := n1_
                      have BK181 := n2_
                      have BK182 := n3_
                      have BK201 := n4_
                      have HB := n5_
                      clear n0_ n1_ n2_ n3_ n4_ n5_
                      have q100 : (a0_0 : Int) ≤ ((x8_36.length : Int) : Int) := od_
                      obtain ⟨i0100, hi0100, _, hsz100, _⟩ := info_parts info3
                      have hroom100 : x8_36.length ≤ co56 := (Kd.R_reads' HO_8.out).2.1
                      have hC100 : Kd.C (Kd.int .i64) _ Ao56 x8_36.length x8_36 := (Kd.R_reads' HO_8.out).2.2
                      have q0100 : (0 : Int) ≤ (a0_0 : Int) := od_
                      have hcut100 := cut_from (P := Try.prog) 25 3 .i64 Try.underlying25 hi0100 1 hsz100 Ao56 x8_36.length co56 a0_0 q0100 q100
                      have hr100 := Kd.C_drop (m := (a0_0 : Int).toNat) (c := co56) hC100 (by omega) hroom100
                      obtain ⟨A100, hA100⟩ : ∃ A1, A1 = (if co56 = (a0_0 : Int).toNat then Ao56 else (Ao56 : Option Addr).map (·.add ((a0_0 : Int).toNat * 1))) := ⟨_, rfl⟩
                      obtain ⟨c100, hc100⟩ : ∃ c1, c1 = co56 - (a0_0 : Int).toNat := ⟨_, rfl⟩
                      have hy100 : y212.length = x8_36.length - (a0_0 : Int).toNat := (by rw [Ny212.out, List.length_drop] <;> omega)
                      rw [show (x8_36).drop (a0_0 : Int).toNat = y212 from Ny212.out.symm] at hr100
                      replace hr100 : Kd.C (Kd.int .i64) _ A100 y212.length y212 := (by rw [hA100]; exact hr100)
                      rw [← hy100, ← hA100, ← hc100] at hcut100
                      have HR215 := Aside0.mk hr100
                      have HC215 := A_ (show y212.length ≤ c100 from by rw [hy100, hc100]; exact Nat.sub_le_sub_right hroom100 _)
                      clear hr100 hC100 hroom100 hi0100 hsz100 hc100
                      have KY100 := Aside0.mk hy100
                      have KA100 := Aside0.mk hA100
                      clear hy100 hA100
                      have KL100 := A_ (show (a0_0 : Int).toNat ≤ x8_36.length from by omega)
                      replace q100 := eq_true q100
                      refine start_ (n := 10) (S := fun w' => w'.cell? ⟨gb201, 0, none⟩ = some (.int .i64 t195) ∧ w'.cell? ⟨gb201, 1, none⟩ = some (.slice Ao61 t196.length co61) ∧ w'.cell? ⟨gb181, 0, none⟩ = some (.int .i64 a0_0) ∧ w'.cell? ⟨gb181, 1, none⟩ = some (.slice A0_1 l0_1.length c0_1)) (ds := []) #[false, false, false, false, false, false, false, false, false, false] (by kernel_rfl) rfl rfl ⟨(blk_cell BK201.out 0).trans rfl, (blk_cell BK201.out 1).trans rfl, (blk_cell BK181.out 0).trans rfl, (blk_cell BK181.out 1).trans rfl⟩ (fun hHeld => ?_); refine with_tabW standstilllaw06_CounterJoined.tab14 standstilllaw06_CounterJoined.bits14 (fun HT_ HW_ => ?_)
                      generalize wc.drew = w99 at HO_8 HO_202001 BK181 BK182 BK201 HB HR215 hHeld ⊢
                      refine pure_ (i := 1) (N := some 114) (v := ?_) (a' := ?_) #[false, true, false, false, false, false, false, false, false, false] rfl rfl (any_of HT_.out (by kernel_rfl)) (fun _ _ _ h => h) (Or.inl ⟨by rfl, ?_⟩) ?_ ?_
                      rotate_left
                      ·intro w'
                       go_simp
                       with_reducible rfl
                      rotate_left
                      ·simp only [Act.put, sa_, sz_, ss_, i64_w, i32_w]
                       rfl
                      refine pure_ (i := 4) (N := some 117) (v := ?_) (a' := ?_) #[false, true, false, false, true, false, false, false, false, false] rfl rfl (any_of HT_.out (by kernel_rfl)) (fun _ _ _ h => h) (Or.inl ⟨by rfl, ?_⟩) ?_ ?_
                      rotate_left
                      ·intro w'
                       go_simp
                       with_reducible rfl
                      rotate_left
                      ·simp only [Act.put, sa_, sz_, ss_, i64_w, i32_w]
                       rfl
                      refine pure_ (i := 5) (N := some 118) (v := ?_) (a' := ?_) #[false, true, false, false, true, true, false, false, false, false] rfl rfl (any_of HT_.out (by kernel_rfl)) (fun _ _ _ h => h) (Or.inl ⟨by rfl, ?_⟩) ?_ ?_
                      rotate_left
                      ·intro w'
                       go_simp
                       with_reducible rfl
                      rotate_left
                      ·simp only [Act.put, sa_, sz_, ss_, i64_w, i32_w]
                       rfl
                      refine take_ (i := 2) (N := some 115) (v := ?_) (a' := ?_) #[false, true, true, false, true, true, false, false, false, false] rfl rfl (take_ofW HT_.out HW_.out (by kernel_rfl)) (fun _ _ _ h => h) (Or.inl ⟨by rfl, ?_⟩) hHeld ?_ ?_
                      rotate_left
                      ·rintro w' ⟨s0, s1, s2, s3⟩
                       go_simp
                       with_reducible rfl
                      rotate_left
                      ·simp only [Act.put, sa_, sz_, ss_, i64_w, i32_w]
                       rfl
                      refine take_ (i := 6) (N := some 119) (v := ?_) (a' := ?_) #[false, true, true, false, true, true, true, false, false, false] rfl rfl (take_ofW HT_.out HW_.out (by kernel_rfl)) (fun _ _ _ h => h) (Or.inl ⟨by rfl, ?_⟩) hHeld ?_ ?_
                      rotate_left
                      ·rintro w' ⟨s0, s1, s2, s3⟩
                       go_simp
                       with_reducible rfl
                      rotate_left
                      ·simp only [Act.put, sa_, sz_, ss_, i64_w, i32_w]
                       rfl
                      refine pure_ (i := 7) (N := some 120) (v := ?_) (a' := ?_) #[false, true, true, false, true, true, true, true, false, false] rfl rfl (any_of HT_.out (by kernel_rfl)) (fun _ _ _ h => h) (Or.inl ⟨by rfl, ?_⟩) ?_ ?_
                      rotate_left
                      ·intro w'
                       go_simp
                       with_reducible rfl
                      rotate_left
                      ·simp only [Act.put, sa_, sz_, ss_, i64_w, i32_w]
                       rfl
                      refine one_ (i := 0) (N := some 113) #[true, true, true, false, true, true, true, true, false, false] rfl rfl (one_of HT_.out (by kernel_rfl)) (by decide) (fun K hK => ?_)
                      refine Kd.R_lit_step (Kd.int .i64) _ 3 ?hg (N := 113) ?hd (xs := ([] : List Int)) (inner := []) (ok := fun _ => True) (okp := fun _ => True) ?hr ?hp (fun _ hk => hk) trivial (Below.refl _ _) (Nat.le_refl _) (by simp) ?_; (case hd => rfl); (case hg => rfl); (case hr => first | (go_simp; done) | (go_simp; rfl)); (case hp => exact (Reps.none _ _))
                      intro v207 w101 ho102 hb hg_ hnew_
                      clear hg_ hnew_
                      (first | rw [← Ny206.out] at ho102 | (simp only [Int.reduceToNat] at ho102; rw [← Ny206.out] at ho102))
                      have n0_ := A_ (Kd.R_elder' (rk_ HO_8.out) (Kd.R_base ho102) hb)
                      have n1_ := A_ (Kd.R_elder' (rk_ HO_202001.out) (Kd.R_base ho102) hb)
                      have n2_ := A_ (Kd.R_lower (Kd.R_new' (Kd.R_new' ho102 (Kd.R_lt (rk_ HO_8.out))) (Kd.R_lt (rk_ HO_202001.out))) (below_size (bk_ HB.out)))
                      have n3_ := A_ (blk_below (pk_ BK181.out) hb)
                      have n4_ := A_ (blk_below (pk_ BK182.out) hb)
                      have n5_ := A_ (blk_below (pk_ BK201.out) hb)
                      have n6_ := A_ (Kd.C_below (by repeat (first | (with_reducible exact HR215.out) | (with_reducible refine Kd.C_alloc ?_ _) | (with_reducible refine Kd.C_drewN ?_ _) | (with_reducible refine Kd.C_drew ?_) | exact HR215.out)) hb)
                      have n7_ := A_ (below_step (bk_ HB.out) hb)
                      clear HO_8 HO_202001 BK181 BK182 BK201 HR215 HB
                      have HO_8 := n0_
                      have HO_202001 := n1_
                      have HO208 := n2_
                      have BK181 := n3_
                      have BK182 := n4_
                      have BK201 := n5_
                      have HR215 := n6_
                      have HB := n7_
                      clear n0_ n1_ n2_ n3_ n4_ n5_ n6_ n7_ hb ho102
                      refine hK.out _ _ ⟨(blk_cell BK201.out 0).trans rfl, (blk_cell BK201.out 1).trans rfl, (blk_cell BK181.out 0).trans rfl, (blk_cell BK181.out 1).trans rfl⟩ (fun hHeld => ?_)
                      clear hK K
                      refine norm_ (a' := ?_) ?_ ?_
                      rotate_left
                      ·show Act.put _ (some 113) _ = _
                       simp only [Act.put, sa_, sz_, ss_, i64_w, i32_w]
                       rfl
                      refine one_ (i := 3) (N := some 116) #[true, true, true, true, true, true, true, true, false, false] rfl rfl (one_of HT_.out (by kernel_rfl)) (by decide) (fun K hK => ?_)
                      refine Kd.R_append_rows_step (Kd.int .i64) (w0 := w) w.heap.size (by rfl) (.tmp 113) (.tmp 115) 25 3 (.int .i64 0) 8 rfl Try.underlying25 info3 rfl (by decide) (by omega) v207 y206 t196 _ _ _ (fun k_ => some k_ ≠ (.slice Ao56 x8_36.length co56 : Value).ownBlock ∧ some k_ ≠ (.slice Ao61 t196.length co61 : Value).ownBlock) (fun _ => False) rfl rfl ?aO ?aR (fun _ _ h => h) (fun _ h => h.elim) ?aF ?aB ?aS ?aL ?_
                      (case aR => repeat (first | exact (Kd.R_reads' HO_202001.out).2.2 | (with_reducible refine Kd.C_alloc ?_ _) | (with_reducible refine Kd.C_drewN ?_ _) | (with_reducible refine Kd.C_drew ?_)))
                      (case aB => exact (bk_ HB.out))
                      (case aF => exact (fun k_ hk => ⟨Kd.fresh' (Kd.R_lt (rk_ HO_8.out)) k_ hk, Kd.fresh' (Kd.R_lt (rk_ HO_202001.out)) k_ hk⟩))
                      (case aO => exact (by (with_reducible repeat (first | apply Kd.R_alloc | apply Kd.R_drewN | apply Kd.R_drew)); exact Kd.R_mono HO208.out (fun _ hk => ⟨hk.1.2, hk.2⟩)))
                      (case aS => exact (below_size (bk_ HB.out)))
                      (case aL => have := LMc91.out; omega)
                      intro v210 w103 ho hb hg hat
                      rw [← Ny209.out] at ho
                      have n0_ := A_ (Kd.R_after (ok := (fun k_ => some k_ ≠ (.slice Ao61 t196.length co61 : Value).ownBlock)) (rk_ HO_8.out) hg hat)
                      have n1_ := A_ (Kd.R_after (ok := (fun k_ => some k_ ≠ (.slice Ao56 x8_36.length co56 : Value).ownBlock)) (rk_ HO_202001.out) hg hat)
                      have n2_ := A_ (blk_grown (pk_ BK181.out) hg (Kd.R_ne HO208.out BK181.out (by decide)))
                      have n3_ := A_ (blk_grown (pk_ BK182.out) hg (Kd.R_ne HO208.out BK182.out (by decide)))
                      have n4_ := A_ (blk_grown (pk_ BK201.out) hg (Kd.R_ne HO208.out BK201.out (by decide)))
                      have n5_ := A_ (hb)
                      have n6_ := A_ ((show Kd.C (Kd.int .i64) w103 A100 y212.length y212 from by rw [Ny212.out, KA100.out]; exact Kd.C_drop (m := (a0_0 : Int).toNat) (c := co56) ((Kd.R_reads' (Kd.R_after (ok := (fun k_ => some k_ ≠ (.slice Ao61 t196.length co61 : Value).ownBlock)) (rk_ HO_8.out) hg hat)).2.2) KL100.out ((Kd.R_reads' (Kd.R_after (ok := (fun k_ => some k_ ≠ (.slice Ao61 t196.length co61 : Value).ownBlock)) (rk_ HO_8.out) hg hat)).2.1)))
                      have n7_ := A_ (ho)
                      clear HO_8 HO_202001 BK181 BK182 BK201 HB HR215 HO208
                      have HO_8 := n0_
                      have HO_202001 := n1_
                      have BK181 := n2_
                      have BK182 := n3_
                      have BK201 := n4_
                      have HB := n5_
                      have HR215 := n6_
                      have HO211 := n7_
                      clear n0_ n1_ n2_ n3_ n4_ n5_ n6_ n7_ ho hb hg hat
                      refine hK.out _ _ ⟨(blk_cell BK201.out 0).trans rfl, (blk_cell BK201.out 1).trans rfl, (blk_cell BK181.out 0).trans rfl, (blk_cell BK181.out 1).trans rfl⟩ (fun hHeld => ?_)
                      clear hK K
                      refine norm_ (a' := ?_) ?_ ?_
                      rotate_left
                      ·show Act.put _ (some 116) _ = _
                       simp only [Act.put, sa_, sz_, ss_, i64_w, i32_w]
                       rfl
                      refine one_ (i := 8) (N := some 121) #[true, true, true, true, true, true, true, true, true, false] rfl rfl (one_of HT_.out (by kernel_rfl)) (by decide) (fun K hK => ?_)
                      refine Kd.R_append_rows_step (Kd.int .i64) (w0 := w) w.heap.size (by rfl) (.tmp 116) (.tmp 120) 25 3 (.int .i64 0) 8 rfl Try.underlying25 info3 rfl (by decide) (by omega) v210 y209 y212 _ _ _ (fun k_ => some k_ ≠ (.slice Ao56 x8_36.length co56 : Value).ownBlock ∧ some k_ ≠ (.slice Ao61 t196.length co61 : Value).ownBlock) (fun _ => False) rfl rfl ?aO ?aR (fun _ _ h => h) (fun _ h => h.elim) ?aF ?aB ?aS ?aL ?_
                      (case aR => repeat (first | exact (by repeat (first | (with_reducible exact HR215.out) | (with_reducible refine Kd.C_alloc ?_ _) | (with_reducible refine Kd.C_drewN ?_ _) | (with_reducible refine Kd.C_drew ?_) | exact HR215.out)) | (with_reducible refine Kd.C_alloc ?_ _) | (with_reducible refine Kd.C_drewN ?_ _) | (with_reducible refine Kd.C_drew ?_)))
                      (case aB => exact (bk_ HB.out))
                      (case aF => exact (fun k_ hk => ⟨Kd.fresh' (Kd.R_lt (rk_ HO_8.out)) k_ hk, Kd.fresh' (Kd.R_lt (rk_ HO_202001.out)) k_ hk⟩))
                      (case aO => exact (rk_ HO211.out))
                      (case aS => exact (below_size (bk_ HB.out)))
                      (case aL => have := LMc94.out; omega)
                      intro v217 w104 ho hb hg hat
                      rw [← Ny216.out] at ho
                      have n0_ := A_ (Kd.R_after (ok := (fun k_ => some k_ ≠ (.slice Ao61 t196.length co61 : Value).ownBlock)) (rk_ HO_8.out) hg hat)
                      have n1_ := A_ (Kd.R_after (ok := (fun k_ => some k_ ≠ (.slice Ao56 x8_36.length co56 : Value).ownBlock)) (rk_ HO_202001.out) hg hat)
                      have n2_ := A_ (blk_grown (pk_ BK181.out) hg (Kd.R_ne HO211.out BK181.out (by decide)))
                      have n3_ := A_ (blk_grown (pk_ BK182.out) hg (Kd.R_ne HO211.out BK182.out (by decide)))
                      have n4_ := A_ (blk_grown (pk_ BK201.out) hg (Kd.R_ne HO211.out BK201.out (by decide)))
                      have n5_ := A_ (hb)
                      have n6_ := A_ ((show Kd.C (Kd.int .i64) w104 A100 y212.length y212 from by rw [Ny212.out, KA100.out]; exact Kd.C_drop (m := (a0_0 : Int).toNat) (c := co56) ((Kd.R_reads' (Kd.R_after (ok := (fun k_ => some k_ ≠ (.slice Ao61 t196.length co61 : Value).ownBlock)) (rk_ HO_8.out) hg hat)).2.2) KL100.out ((Kd.R_reads' (Kd.R_after (ok := (fun k_ => some k_ ≠ (.slice Ao61 t196.length co61 : Value).ownBlock)) (rk_ HO_8.out) hg hat)).2.1)))
                      have n7_ := A_ (ho)
                      clear HO_8 HO_202001 BK181 BK182 BK201 HB HR215 HO211
                      have HO_8 := n0_
                      have HO_202001 := n1_
                      have BK181 := n2_
                      have BK182 := n3_
                      have BK201 := n4_
                      have HB := n5_
                      have HR215 := n6_
                      have HO218 := n7_
                      clear n0_ n1_ n2_ n3_ n4_ n5_ n6_ n7_ ho hb hg hat
                      refine hK.out _ _ ⟨(blk_cell BK201.out 0).trans rfl, (blk_cell BK201.out 1).trans rfl, (blk_cell BK181.out 0).trans rfl, (blk_cell BK181.out 1).trans rfl⟩ (fun hHeld => ?_)
                      clear hK K
                      refine norm_ (a' := ?_) ?_ ?_
                      rotate_left
                      ·show Act.put _ (some 121) _ = _
                       simp only [Act.put, sa_, sz_, ss_, i64_w, i32_w]
                       rfl
                      refine pure_ (i := 9) (N := some 13) (v := ?_) (a' := ?_) #[true, true, true, true, true, true, true, true, true, true] rfl rfl (any_of HT_.out (by kernel_rfl)) (fun _ _ _ h => h) (Or.inl ⟨by rfl, ?_⟩) ?_ ?_
                      rotate_left
                      ·intro w'
                       go_simp
                       with_reducible rfl
                      rotate_left
                      ·simp only [Act.put, sa_, sz_, ss_, i64_w, i32_w]
                       rfl
                      refine done_ (done_of HT_.out (by kernel_rfl)) ?_
                      try go_wp2
                      have n0_ := A_ (Kd.R_drew HO_8.out)
                      have n1_ := A_ (Kd.R_drew HO_202001.out)
                      have n2_ := A_ (Kd.R_drew HO218.out)
                      have n3_ := A_ (blk_drew BK181.out)
                      have n4_ := A_ (blk_drew BK182.out)
                      have n5_ := A_ (blk_drew BK201.out)
                      have n6_ := A_ (Kd.C_drew HR215.out)
                      have n7_ := A_ (below_drew1 HB.out)
                      clear HO_8 HO_202001 HO218 BK181 BK182 BK201 HR215 HB
                      have HO_8 := n0_
                      have HO_202001 := n1_
                      have HO218 := n2_
                      have BK181 := n3_
                      have BK182 := n4_
                      have BK201 := n5_
                      have HR215 := n6_
                      have HB := n7_
                      clear n0_ n1_ n2_ n3_ n4_ n5_ n6_ n7_
                      obtain ⟨Ao107, co107, eo107⟩ := Kd.R_slice HO218.out
                      (first | subst eo107 | (injection eo107 with f1_ f2_ f3_; have f4_ := f1_.symm; have f5_ := f3_.symm; clear f1_ f2_ f3_; subst f4_; subst f5_))
                      have q106 : (a1_0 : Int) ≤ ((y216.length : Int) : Int) := od_
                      obtain ⟨i0106, hi0106, _, hsz106, _⟩ := info_parts info3
                      have hroom106 : y216.length ≤ co107 := (Kd.R_reads' HO218.out).2.1
                      have hC106 : Kd.C (Kd.int .i64) _ Ao107 y216.length y216 := (Kd.R_reads' HO218.out).2.2
                      have hcut106 := cut_to (P := Try.prog) 25 3 .i64 Try.underlying25 hi0106 Ao107 y216.length co107 a1_0 (od_) q106 hroom106
                      have hr106 := Kd.C_take (m := (a1_0 : Int).toNat) hC106 (by omega)
                      have hy106 : y219.length = (a1_0 : Int).toNat := (by rw [Ny219.out, List.length_take]; omega)
                      rw [← Ny219.out] at hr106
                      rw [← hy106] at hcut106
                      have HR222 := Aside0.mk hr106
                      have HC222 := A_ (show y219.length ≤ co107 from by omega)
                      clear hr106 hC106 hroom106 hi0106 hsz106
                      have KY106 := Aside0.mk hy106
                      clear hy106
                      have KL106 := A_ (show (a1_0 : Int).toNat ≤ y216.length from by omega)
                      replace q106 := eq_true q106
                      refine start_ (n := 15) (S := fun w' => w'.cell? ⟨gb182, 0, none⟩ = some (.int .i64 a1_0) ∧ w'.cell? ⟨gb182, 1, none⟩ = some (.slice A1_1 l1_1.length c1_1)) (ds := []) #[false, false, false, false, false, false, false, false, false, false, false, false, false, false, false] (by kernel_rfl) rfl rfl ⟨(blk_cell BK182.out 0).trans rfl, (blk_cell BK182.out 1).trans rfl⟩ (fun hHeld => ?_); refine with_tabW standstilllaw06_CounterJoined.tab15 standstilllaw06_CounterJoined.bits15 (fun HT_ HW_ => ?_)
                      generalize w104.drew = w105 at HO_8 HO_202001 HO218 BK181 BK182 BK201 HR215 HB HR222 hHeld ⊢
                      refine pure_ (i := 1) (N := some 124) (v := ?_) (a' := ?_) #[false, true, false, false, false, false, false, false, false, false, false, false, false, false, false] rfl rfl (any_of HT_.out (by kernel_rfl)) (fun _ _ _ h => h) (Or.inl ⟨by rfl, ?_⟩) ?_ ?_
                      rotate_left
                      ·intro w'
                       go_simp
                       with_reducible rfl
                      rotate_left
                      ·simp only [Act.put, sa_, sz_, ss_, i64_w, i32_w]
                       rfl
                      refine pure_ (i := 2) (N := some 125) (v := ?_) (a' := ?_) #[false, true, true, false, false, false, false, false, false, false, false, false, false, false, false] rfl rfl (any_of HT_.out (by kernel_rfl)) (fun _ _ _ h => h) (Or.inl ⟨by rfl, ?_⟩) ?_ ?_
                      rotate_left
                      ·intro w'
                       go_simp
                       with_reducible rfl
                      rotate_left
                      ·simp only [Act.put, sa_, sz_, ss_, i64_w, i32_w]
                       rfl
                      refine take_ (i := 0) (N := some 123) (v := ?_) (a' := ?_) #[true, true, true, false, false, false, false, false, false, false, false, false, false, false, false] rfl rfl (take_ofW HT_.out HW_.out (by kernel_rfl)) (fun _ _ _ h => h) (Or.inl ⟨by rfl, ?_⟩) hHeld ?_ ?_
                      rotate_left
                      ·rintro w' ⟨s0, s1⟩
                       go_simp
                       with_reducible rfl
                      rotate_left
                      ·simp only [Act.put, sa_, sz_, ss_, i64_w, i32_w]
                       rfl
                      refine take_ (i := 3) (N := some 126) (v := ?_) (a' := ?_) #[true, true, true, true, false, false, false, false, false, false, false, false, false, false, false] rfl rfl (take_ofW HT_.out HW_.out (by kernel_rfl)) (fun _ _ _ h => h) (Or.inl ⟨by rfl, ?_⟩) hHeld ?_ ?_
                      rotate_left
                      ·rintro w' ⟨s0, s1⟩
                       go_simp
                       with_reducible rfl
                      rotate_left
                      ·simp only [Act.put, sa_, sz_, ss_, i64_w, i32_w]
                       rfl
                      refine pure_ (i := 4) (N := some 127) (v := ?_) (a' := ?_) #[true, true, true, true, true, false, false, false, false, false, false, false, false, false, false] rfl rfl (any_of HT_.out (by kernel_rfl)) (fun _ _ _ h => h) (Or.inl ⟨by rfl, ?_⟩) ?_ ?_
                      rotate_left
                      ·intro w'
                       go_simp
                       with_reducible rfl
                      rotate_left
                      ·simp only [Act.put, sa_, sz_, ss_, i64_w, i32_w]
                       rfl
                      refine pure_ (i := 5) (N := some 128) (v := ?_) (a' := ?_) #[true, true, true, true, true, true, false, false, false, false, false, false, false, false, false] rfl rfl (any_of HT_.out (by kernel_rfl)) (fun _ _ _ h => h) (Or.inl ⟨by rfl, ?_⟩) ?_ ?_
                      rotate_left
                      ·intro w'
                       go_simp
                       with_reducible rfl
                      rotate_left
                      ·simp only [Act.put, sa_, sz_, ss_, i64_w, i32_w]
                       rfl
                      refine join_ (σ := Value × Nat) 3 #[true, true, true, true, true, true, true, true, true, true, true, true, false, false, false] (fun s_ => [(129, .tuple #[.agg #[.int .i64 t223, s_.1], .int .i64 t227, .int .i64 t228]), (14, .pointer (some ⟨s_.2, 0, none⟩)), (122, .tuple #[.agg #[.int .i64 t223, s_.1], .int .i64 t227, .int .i64 t228]), (130, .agg #[.int .i64 t223, s_.1]), (131, .int .i64 t227), (132, .int .i64 t228)]) (fun s_ w' => (w'.cell? ⟨gb182, 0, none⟩ = some (.int .i64 a1_0) ∧ w'.cell? ⟨gb182, 1, none⟩ = some (.slice A1_1 l1_1.length c1_1)) ∧ (Kd.R (Kd.int .i64) 3 w' w.heap.size (fun k_ => some k_ ≠ (s_.1 : Value).ownBlock ∧ some k_ ≠ (.slice Ao61 t196.length co61 : Value).ownBlock ∧ some k_ ≠ (.slice Ao56 x8_36.length co56 : Value).ownBlock) (.slice Ao107 y216.length co107) y216) ∧ (Kd.R (Kd.int .i64) 3 w' w.heap.size (fun k_ => some k_ ≠ (.slice Ao107 y216.length co107 : Value).ownBlock ∧ some k_ ≠ (.slice Ao61 t196.length co61 : Value).ownBlock ∧ some k_ ≠ (.slice Ao56 x8_36.length co56 : Value).ownBlock) s_.1 t224) ∧ (Kd.R (Kd.int .i64) 3 w' w.heap.size (fun k_ => some k_ ≠ (.slice Ao107 y216.length co107 : Value).ownBlock ∧ some k_ ≠ (s_.1 : Value).ownBlock ∧ some k_ ≠ (.slice Ao56 x8_36.length co56 : Value).ownBlock) (.slice Ao61 t196.length co61) t196) ∧ (Kd.R (Kd.int .i64) 3 w' w.heap.size (fun k_ => some k_ ≠ (.slice Ao107 y216.length co107 : Value).ownBlock ∧ some k_ ≠ (s_.1 : Value).ownBlock ∧ some k_ ≠ (.slice Ao61 t196.length co61 : Value).ownBlock) (.slice Ao56 x8_36.length co56) x8_36) ∧ (w'.heap[gb181]? = some (.cells #[.int .i64 a0_0, .slice A0_1 l0_1.length c0_1] 24 (0, 0))) ∧ (w'.heap[gb182]? = some (.cells #[.int .i64 a1_0, .slice A1_1 l1_1.length c1_1] 24 (0, 0))) ∧ (w'.heap[gb201]? = some (.cells #[.int .i64 t195, .slice Ao61 t196.length co61] 27 (0, 0))) ∧ (w'.heap[s_.2]? = some (.cells #[.int .i64 0, .slice none 0 0] 27 (0, 0))) ∧ (w.heap.size ≤ s_.2) ∧ (w.heap.size ≤ s_.2) ∧ (gb181 ≠ s_.2) ∧ (s_.2 ≠ gb181) ∧ (gb182 ≠ s_.2) ∧ (s_.2 ≠ gb182) ∧ (gb201 ≠ s_.2) ∧ (s_.2 ≠ gb201) ∧ (Below w.heap.size w w')) ?_ ?_
                      rotate_left
                      ·intro hCont
                       refine two_ (i := 6) (j := 11) (Ni := some 129) (Nj := some 14) #[true, true, true, true, true, true, true, false, false, false, false, false, false, false, false] #[true, true, true, true, true, true, false, false, false, false, false, true, false, false, false] rfl rfl rfl rfl (two_of HT_.out (by kernel_rfl)) (by decide) (by decide) (fun K hK => ?_) (fun K hK => ?_)
                       ·skip
                        refine goes_ Try.func11 (by kernel_rfl) rfl #[.agg #[.int .i64 a1_0, .slice A1_1 l1_1.length c1_1], .agg #[.int .i64 0, .slice Ao107 y219.length co107], .int .i64 3000] (by rfl) rfl rfl gl_ ?_
                        with_reducible refine (counter_Run.calls kj71 a1_0 _ _ l1_1 0 _ _ y219 3000 t223 t224 t227 t228 _ ?side1 ?side2 ?side3 ?side4 A97.out).mono ?_
                        (case side1 => exact ck_ (Kd.C_below HR1_1.out HB.out))
                        (case side2 => exact HC1_1.out)
                        (case side3 => repeat (first | exact (by repeat (first | (with_reducible exact HR222.out) | (with_reducible refine Kd.C_alloc ?_ _) | (with_reducible refine Kd.C_drewN ?_ _) | (with_reducible refine Kd.C_drew ?_) | exact HR222.out)) | (with_reducible refine Kd.C_alloc ?_ _) | (with_reducible refine Kd.C_drewN ?_ _) | (with_reducible refine Kd.C_drew ?_)))
                        (case side4 => exact HC222.out)
                        rintro e w108 ⟨v225, rfl, ho0, hb⟩
                        refine ⟨_, rfl, ?_⟩
                        have n0_ := A_ (Kd.R_elder' (rk_ HO_8.out) (Kd.R_base ho0) hb)
                        have n1_ := A_ (Kd.R_elder' (rk_ HO_202001.out) (Kd.R_base ho0) hb)
                        have n2_ := A_ (Kd.R_elder' (rk_ HO218.out) (Kd.R_base ho0) hb)
                        have n3_ := A_ (Kd.R_lower (Kd.R_new' (Kd.R_new' (Kd.R_new' ho0 (Kd.R_lt (rk_ HO_8.out))) (Kd.R_lt (rk_ HO_202001.out))) (Kd.R_lt (rk_ HO218.out))) (below_size (bk_ HB.out)))
                        have n4_ := A_ (blk_below (pk_ BK181.out) hb)
                        have n5_ := A_ (blk_below (pk_ BK182.out) hb)
                        have n6_ := A_ (blk_below (pk_ BK201.out) hb)
                        have n7_ := A_ (Kd.C_below (by repeat (first | (with_reducible exact HR215.out) | (with_reducible refine Kd.C_alloc ?_ _) | (with_reducible refine Kd.C_drewN ?_ _) | (with_reducible refine Kd.C_drew ?_) | exact HR215.out)) hb)
                        have n8_ := A_ (Kd.C_below (by repeat (first | (with_reducible exact HR222.out) | (with_reducible refine Kd.C_alloc ?_ _) | (with_reducible refine Kd.C_drewN ?_ _) | (with_reducible refine Kd.C_drew ?_) | exact HR222.out)) hb)
                        have n9_ := A_ (below_step (bk_ HB.out) hb)
                        clear HO_8 HO_202001 HO218 BK181 BK182 BK201 HR215 HR222 HB
                        have HO_8 := n0_
                        have HO_202001 := n1_
                        have HO218 := n2_
                        have HO226 := n3_
                        have BK181 := n4_
                        have BK182 := n5_
                        have BK201 := n6_
                        have HR215 := n7_
                        have HR222 := n8_
                        have HB := n9_
                        clear n0_ n1_ n2_ n3_ n4_ n5_ n6_ n7_ n8_ n9_
                        (try clear hb)
                        (try clear hb2)
                        (try clear hk)
                        (try clear hi)
                        (try clear ho0)
                        refine hK.out _ _ ⟨(blk_cell BK182.out 0).trans rfl, (blk_cell BK182.out 1).trans rfl⟩ (fun hHeld => ?_)
                        clear hK K
                        refine norm_ (a' := ?_) ?_ ?_
                        rotate_left
                        ·show Act.put _ (some 129) _ = _
                         simp only [Act.put, sa_, sz_, ss_, i64_w, i32_w]
                         rfl
                        refine pure_ (i := 7) (N := some 122) (v := ?_) (a' := ?_) #[true, true, true, true, true, true, true, true, false, false, false, false, false, false, false] rfl rfl (any_of HT_.out (by kernel_rfl)) (fun _ _ _ h => h) (Or.inl ⟨by rfl, ?_⟩) ?_ ?_
                        rotate_left
                        ·intro w'
                         go_simp
                         with_reducible rfl
                        rotate_left
                        ·simp only [Act.put, sa_, sz_, ss_, i64_w, i32_w]
                         rfl
                        refine pure_ (i := 8) (N := some 130) (v := ?_) (a' := ?_) #[true, true, true, true, true, true, true, true, true, false, false, false, false, false, false] rfl rfl (any_of HT_.out (by kernel_rfl)) (fun _ _ _ h => h) (Or.inl ⟨by rfl, ?_⟩) ?_ ?_
                        rotate_left
                        ·intro w'
                         go_simp
                         with_reducible rfl
                        rotate_left
                        ·simp only [Act.put, sa_, sz_, ss_, i64_w, i32_w]
                         rfl
                        refine pure_ (i := 9) (N := some 131) (v := ?_) (a' := ?_) #[true, true, true, true, true, true, true, true, true, true, false, false, false, false, false] rfl rfl (any_of HT_.out (by kernel_rfl)) (fun _ _ _ h => h) (Or.inl ⟨by rfl, ?_⟩) ?_ ?_
                        rotate_left
                        ·intro w'
                         go_simp
                         with_reducible rfl
                        rotate_left
                        ·simp only [Act.put, sa_, sz_, ss_, i64_w, i32_w]
                         rfl
                        refine pure_ (i := 10) (N := some 132) (v := ?_) (a' := ?_) #[true, true, true, true, true, true, true, true, true, true, true, false, false, false, false] rfl rfl (any_of HT_.out (by kernel_rfl)) (fun _ _ _ h => h) (Or.inl ⟨by rfl, ?_⟩) ?_ ?_
                        rotate_left
                        ·intro w'
                         go_simp
                         with_reducible rfl
                        rotate_left
                        ·simp only [Act.put, sa_, sz_, ss_, i64_w, i32_w]
                         rfl
                        refine one_ (i := 11) (N := some 14) #[true, true, true, true, true, true, true, true, true, true, true, true, false, false, false] rfl rfl (one_of HT_.out (by kernel_rfl)) (by decide) (fun K hK => ?_)
                        refine box_step ?hg (N := 14) ?hd (cs := #[.int .i64 0, .slice none 0 0]) (t := 27) ?hr ?_; (case hd => rfl); (case hg => rfl); (case hr => first | (go_simp; done) | (go_simp; rfl))
                        intro gb229 hg w109 hbox hb
                        have n0_ := A_ (Kd.R_below (rk_ HO_8.out) hb)
                        have n1_ := A_ (Kd.R_below (rk_ HO_202001.out) hb)
                        have n2_ := A_ (Kd.R_below (rk_ HO218.out) hb)
                        have n3_ := A_ (Kd.R_below (rk_ HO226.out) hb)
                        have n4_ := A_ (blk_below (pk_ BK181.out) hb)
                        have n5_ := A_ (blk_below (pk_ BK182.out) hb)
                        have n6_ := A_ (blk_below (pk_ BK201.out) hb)
                        have n7_ := A_ (Kd.C_below (by repeat (first | (with_reducible exact HR215.out) | (with_reducible refine Kd.C_alloc ?_ _) | (with_reducible refine Kd.C_drewN ?_ _) | (with_reducible refine Kd.C_drew ?_) | exact HR215.out)) hb)
                        have n8_ := A_ (Kd.C_below (by repeat (first | (with_reducible exact HR222.out) | (with_reducible refine Kd.C_alloc ?_ _) | (with_reducible refine Kd.C_drewN ?_ _) | (with_reducible refine Kd.C_drew ?_) | exact HR222.out)) hb)
                        have n9_ := A_ (below_step (bk_ HB.out) hb)
                        have n10_ := A_ (hbox)
                        have n11_ := A_ ((by rw [hg]; exact (below_size (bk_ HB.out)) : w.heap.size ≤ gb229))
                        have n12_ := A_ ((by rw [hg]; exact (below_size (bk_ HB.out)) : w.heap.size ≤ gb229))
                        have n13_ := A_ ((by rw [hg]; exact Nat.ne_of_lt (blk_lt (pk_ BK181.out)) : gb181 ≠ gb229))
                        have n14_ := A_ ((by rw [hg]; exact Nat.ne_of_gt (blk_lt (pk_ BK181.out)) : gb229 ≠ gb181))
                        have n15_ := A_ ((by rw [hg]; exact Nat.ne_of_lt (blk_lt (pk_ BK182.out)) : gb182 ≠ gb229))
                        have n16_ := A_ ((by rw [hg]; exact Nat.ne_of_gt (blk_lt (pk_ BK182.out)) : gb229 ≠ gb182))
                        have n17_ := A_ ((by rw [hg]; exact Nat.ne_of_lt (blk_lt (pk_ BK201.out)) : gb201 ≠ gb229))
                        have n18_ := A_ ((by rw [hg]; exact Nat.ne_of_gt (blk_lt (pk_ BK201.out)) : gb229 ≠ gb201))
                        clear HO_8 HO_202001 HO218 HO226 BK181 BK182 BK201 HR215 HR222 HB
                        have HO_8 := n0_
                        have HO_202001 := n1_
                        have HO218 := n2_
                        have HO226 := n3_
                        have BK181 := n4_
                        have BK182 := n5_
                        have BK201 := n6_
                        have HR215 := n7_
                        have HR222 := n8_
                        have HB := n9_
                        have BK229 := n10_
                        have GW229 := n11_
                        have GE229 := n12_
                        have NB181_229 := n13_
                        have NB229_181 := n14_
                        have NB182_229 := n15_
                        have NB229_182 := n16_
                        have NB201_229 := n17_
                        have NB229_201 := n18_
                        clear n0_ n1_ n2_ n3_ n4_ n5_ n6_ n7_ n8_ n9_ n10_ n11_ n12_ n13_ n14_ n15_ n16_ n17_ n18_ hb hbox hg
                        refine hK.out _ _ ⟨(blk_cell BK182.out 0).trans rfl, (blk_cell BK182.out 1).trans rfl⟩ (fun hHeld => ?_)
                        clear hK K
                        refine norm_ (a' := ?_) ?_ ?_
                        rotate_left
                        ·show Act.put _ (some 14) _ = _
                         simp only [Act.put, sa_, sz_, ss_, i64_w, i32_w]
                         rfl
                        exact norm_ (by simp only [putAll, Act.put, List.setIfInBounds_toArray, List.set_cons_zero, List.set_cons_succ]) (hCont (v225, gb229) _ ⟨hHeld, (by (with_reducible repeat (first | apply Kd.R_alloc | apply Kd.R_drewN | apply Kd.R_drew)); exact Kd.R_mono HO218.out (fun _ hk => ⟨hk.2, ⟨hk.1.2, hk.1.1⟩⟩)), (by (with_reducible repeat (first | apply Kd.R_alloc | apply Kd.R_drewN | apply Kd.R_drew)); exact Kd.R_mono HO226.out (fun _ hk => ⟨hk.2, ⟨hk.1.2, hk.1.1.2⟩⟩)), (by (with_reducible repeat (first | apply Kd.R_alloc | apply Kd.R_drewN | apply Kd.R_drew)); exact Kd.R_mono HO_202001.out (fun _ hk => ⟨hk.1.2, ⟨hk.2, hk.1.1⟩⟩)), (by (with_reducible repeat (first | apply Kd.R_alloc | apply Kd.R_drewN | apply Kd.R_drew)); exact Kd.R_mono HO_8.out (fun _ hk => ⟨hk.1.2, ⟨hk.2, hk.1.1⟩⟩)), (pk_ BK181.out), (pk_ BK182.out), (pk_ BK201.out), (pk_ BK229.out), GW229.out, GE229.out, NB181_229.out, NB229_181.out, NB182_229.out, NB229_182.out, NB201_229.out, NB229_201.out, (bk_ HB.out)⟩)
                       ·skip
                        refine box_step ?hg (N := 14) ?hd (cs := #[.int .i64 0, .slice none 0 0]) (t := 27) ?hr ?_; (case hd => rfl); (case hg => rfl); (case hr => first | (go_simp; done) | (go_simp; rfl))
                        intro gb229 hg w108 hbox hb
                        have n0_ := A_ (Kd.R_below (rk_ HO_8.out) hb)
                        have n1_ := A_ (Kd.R_below (rk_ HO_202001.out) hb)
                        have n2_ := A_ (Kd.R_below (rk_ HO218.out) hb)
                        have n3_ := A_ (blk_below (pk_ BK181.out) hb)
                        have n4_ := A_ (blk_below (pk_ BK182.out) hb)
                        have n5_ := A_ (blk_below (pk_ BK201.out) hb)
                        have n6_ := A_ (Kd.C_below (by repeat (first | (with_reducible exact HR215.out) | (with_reducible refine Kd.C_alloc ?_ _) | (with_reducible refine Kd.C_drewN ?_ _) | (with_reducible refine Kd.C_drew ?_) | exact HR215.out)) hb)
                        have n7_ := A_ (Kd.C_below (by repeat (first | (with_reducible exact HR222.out) | (with_reducible refine Kd.C_alloc ?_ _) | (with_reducible refine Kd.C_drewN ?_ _) | (with_reducible refine Kd.C_drew ?_) | exact HR222.out)) hb)
                        have n8_ := A_ (below_step (bk_ HB.out) hb)
                        have n9_ := A_ (hbox)
                        have n10_ := A_ ((by rw [hg]; exact (below_size (bk_ HB.out)) : w.heap.size ≤ gb229))
                        have n11_ := A_ ((by rw [hg]; exact (below_size (bk_ HB.out)) : w.heap.size ≤ gb229))
                        have n12_ := A_ ((by rw [hg]; exact Nat.ne_of_lt (blk_lt (pk_ BK181.out)) : gb181 ≠ gb229))
                        have n13_ := A_ ((by rw [hg]; exact Nat.ne_of_gt (blk_lt (pk_ BK181.out)) : gb229 ≠ gb181))
                        have n14_ := A_ ((by rw [hg]; exact Nat.ne_of_lt (blk_lt (pk_ BK182.out)) : gb182 ≠ gb229))
                        have n15_ := A_ ((by rw [hg]; exact Nat.ne_of_gt (blk_lt (pk_ BK182.out)) : gb229 ≠ gb182))
                        have n16_ := A_ ((by rw [hg]; exact Nat.ne_of_lt (blk_lt (pk_ BK201.out)) : gb201 ≠ gb229))
                        have n17_ := A_ ((by rw [hg]; exact Nat.ne_of_gt (blk_lt (pk_ BK201.out)) : gb229 ≠ gb201))
                        clear HO_8 HO_202001 HO218 BK181 BK182 BK201 HR215 HR222 HB
                        have HO_8 := n0_
                        have HO_202001 := n1_
                        have HO218 := n2_
                        have BK181 := n3_
                        have BK182 := n4_
                        have BK201 := n5_
                        have HR215 := n6_
                        have HR222 := n7_
                        have HB := n8_
                        have BK229 := n9_
                        have GW229 := n10_
                        have GE229 := n11_
                        have NB181_229 := n12_
                        have NB229_181 := n13_
                        have NB182_229 := n14_
                        have NB229_182 := n15_
                        have NB201_229 := n16_
                        have NB229_201 := n17_
                        clear n0_ n1_ n2_ n3_ n4_ n5_ n6_ n7_ n8_ n9_ n10_ n11_ n12_ n13_ n14_ n15_ n16_ n17_ hb hbox hg
                        refine hK.out _ _ ⟨(blk_cell BK182.out 0).trans rfl, (blk_cell BK182.out 1).trans rfl⟩ (fun hHeld => ?_)
                        clear hK K
                        refine norm_ (a' := ?_) ?_ ?_
                        rotate_left
                        ·show Act.put _ (some 14) _ = _
                         simp only [Act.put, sa_, sz_, ss_, i64_w, i32_w]
                         rfl
                        refine one_ (i := 6) (N := some 129) #[true, true, true, true, true, true, true, false, false, false, false, true, false, false, false] rfl rfl (one_of HT_.out (by kernel_rfl)) (by decide) (fun K hK => ?_)
                        refine goes_ Try.func11 (by kernel_rfl) rfl #[.agg #[.int .i64 a1_0, .slice A1_1 l1_1.length c1_1], .agg #[.int .i64 0, .slice Ao107 y219.length co107], .int .i64 3000] (by rfl) rfl rfl gl_ ?_
                        with_reducible refine (counter_Run.calls kj71 a1_0 _ _ l1_1 0 _ _ y219 3000 t223 t224 t227 t228 _ ?side1 ?side2 ?side3 ?side4 A97.out).mono ?_
                        (case side1 => exact ck_ (Kd.C_below HR1_1.out HB.out))
                        (case side2 => exact HC1_1.out)
                        (case side3 => repeat (first | exact (by repeat (first | (with_reducible exact HR222.out) | (with_reducible refine Kd.C_alloc ?_ _) | (with_reducible refine Kd.C_drewN ?_ _) | (with_reducible refine Kd.C_drew ?_) | exact HR222.out)) | (with_reducible refine Kd.C_alloc ?_ _) | (with_reducible refine Kd.C_drewN ?_ _) | (with_reducible refine Kd.C_drew ?_)))
                        (case side4 => exact HC222.out)
                        rintro e w109 ⟨v225, rfl, ho0, hb⟩
                        refine ⟨_, rfl, ?_⟩
                        have n0_ := A_ (Kd.R_elder' (rk_ HO_8.out) (Kd.R_base ho0) hb)
                        have n1_ := A_ (Kd.R_elder' (rk_ HO_202001.out) (Kd.R_base ho0) hb)
                        have n2_ := A_ (Kd.R_elder' (rk_ HO218.out) (Kd.R_base ho0) hb)
                        have n3_ := A_ (Kd.R_lower (Kd.R_new' (Kd.R_new' (Kd.R_new' ho0 (Kd.R_lt (rk_ HO_8.out))) (Kd.R_lt (rk_ HO_202001.out))) (Kd.R_lt (rk_ HO218.out))) (below_size (bk_ HB.out)))
                        have n4_ := A_ (blk_below (pk_ BK181.out) hb)
                        have n5_ := A_ (blk_below (pk_ BK182.out) hb)
                        have n6_ := A_ (blk_below (pk_ BK201.out) hb)
                        have n7_ := A_ (Kd.C_below (by repeat (first | (with_reducible exact HR215.out) | (with_reducible refine Kd.C_alloc ?_ _) | (with_reducible refine Kd.C_drewN ?_ _) | (with_reducible refine Kd.C_drew ?_) | exact HR215.out)) hb)
                        have n8_ := A_ (Kd.C_below (by repeat (first | (with_reducible exact HR222.out) | (with_reducible refine Kd.C_alloc ?_ _) | (with_reducible refine Kd.C_drewN ?_ _) | (with_reducible refine Kd.C_drew ?_) | exact HR222.out)) hb)
                        have n9_ := A_ (blk_below (pk_ BK229.out) hb)
                        have n10_ := A_ (below_step (bk_ HB.out) hb)
                        clear HO_8 HO_202001 HO218 BK181 BK182 BK201 HR215 HR222 BK229 HB
                        have HO_8 := n0_
                        have HO_202001 := n1_
                        have HO218 := n2_
                        have HO226 := n3_
                        have BK181 := n4_
                        have BK182 := n5_
                        have BK201 := n6_
                        have HR215 := n7_
                        have HR222 := n8_
                        have BK229 := n9_
                        have HB := n10_
                        clear n0_ n1_ n2_ n3_ n4_ n5_ n6_ n7_ n8_ n9_ n10_
                        (try clear hb)
                        (try clear hb2)
                        (try clear hk)
                        (try clear hi)
                        (try clear ho0)
                        refine hK.out _ _ ⟨(blk_cell BK182.out 0).trans rfl, (blk_cell BK182.out 1).trans rfl⟩ (fun hHeld => ?_)
                        clear hK K
                        refine norm_ (a' := ?_) ?_ ?_
                        rotate_left
                        ·show Act.put _ (some 129) _ = _
                         simp only [Act.put, sa_, sz_, ss_, i64_w, i32_w]
                         rfl
                        refine pure_ (i := 7) (N := some 122) (v := ?_) (a' := ?_) #[true, true, true, true, true, true, true, true, false, false, false, true, false, false, false] rfl rfl (any_of HT_.out (by kernel_rfl)) (fun _ _ _ h => h) (Or.inl ⟨by rfl, ?_⟩) ?_ ?_
                        rotate_left
                        ·intro w'
                         go_simp
                         with_reducible rfl
                        rotate_left
                        ·simp only [Act.put, sa_, sz_, ss_, i64_w, i32_w]
                         rfl
                        refine pure_ (i := 8) (N := some 130) (v := ?_) (a' := ?_) #[true, true, true, true, true, true, true, true, true, false, false, true, false, false, false] rfl rfl (any_of HT_.out (by kernel_rfl)) (fun _ _ _ h => h) (Or.inl ⟨by rfl, ?_⟩) ?_ ?_
                        rotate_left
                        ·intro w'
                         go_simp
                         with_reducible rfl
                        rotate_left
                        ·simp only [Act.put, sa_, sz_, ss_, i64_w, i32_w]
                         rfl
                        refine pure_ (i := 9) (N := some 131) (v := ?_) (a' := ?_) #[true, true, true, true, true, true, true, true, true, true, false, true, false, false, false] rfl rfl (any_of HT_.out (by kernel_rfl)) (fun _ _ _ h => h) (Or.inl ⟨by rfl, ?_⟩) ?_ ?_
                        rotate_left
                        ·intro w'
                         go_simp
                         with_reducible rfl
                        rotate_left
                        ·simp only [Act.put, sa_, sz_, ss_, i64_w, i32_w]
                         rfl
                        refine pure_ (i := 10) (N := some 132) (v := ?_) (a' := ?_) #[true, true, true, true, true, true, true, true, true, true, true, true, false, false, false] rfl rfl (any_of HT_.out (by kernel_rfl)) (fun _ _ _ h => h) (Or.inl ⟨by rfl, ?_⟩) ?_ ?_
                        rotate_left
                        ·intro w'
                         go_simp
                         with_reducible rfl
                        rotate_left
                        ·simp only [Act.put, sa_, sz_, ss_, i64_w, i32_w]
                         rfl
                        exact norm_ (by simp only [putAll, Act.put, List.setIfInBounds_toArray, List.set_cons_zero, List.set_cons_succ]) (hCont (v225, gb229) _ ⟨hHeld, (by (with_reducible repeat (first | apply Kd.R_alloc | apply Kd.R_drewN | apply Kd.R_drew)); exact Kd.R_mono HO218.out (fun _ hk => ⟨hk.2, ⟨hk.1.2, hk.1.1⟩⟩)), (by (with_reducible repeat (first | apply Kd.R_alloc | apply Kd.R_drewN | apply Kd.R_drew)); exact Kd.R_mono HO226.out (fun _ hk => ⟨hk.2, ⟨hk.1.2, hk.1.1.2⟩⟩)), (by (with_reducible repeat (first | apply Kd.R_alloc | apply Kd.R_drewN | apply Kd.R_drew)); exact Kd.R_mono HO_202001.out (fun _ hk => ⟨hk.1.2, ⟨hk.2, hk.1.1⟩⟩)), (by (with_reducible repeat (first | apply Kd.R_alloc | apply Kd.R_drewN | apply Kd.R_drew)); exact Kd.R_mono HO_8.out (fun _ hk => ⟨hk.1.2, ⟨hk.2, hk.1.1⟩⟩)), (pk_ BK181.out), (pk_ BK182.out), (pk_ BK201.out), (pk_ BK229.out), GW229.out, GE229.out, NB181_229.out, NB229_181.out, NB182_229.out, NB229_182.out, NB201_229.out, NB229_201.out, (bk_ HB.out)⟩)
                      rintro ⟨v225, gb229⟩ w110 ⟨hS_, h0_, h1_, h2_, h3_, h4_, h5_, h6_, h7_, h8_, h9_, h10_, h11_, h12_, h13_, h14_, h15_, h16_⟩
                      have n0_ : Aside0 (Kd.R (Kd.int .i64) 3 w110 w.heap.size (fun k_ => some k_ ≠ (v225 : Value).ownBlock ∧ some k_ ≠ (.slice Ao61 t196.length co61 : Value).ownBlock ∧ some k_ ≠ (.slice Ao56 x8_36.length co56 : Value).ownBlock) (.slice Ao107 y216.length co107) y216) := ⟨h0_⟩
                      have n1_ : Aside0 (Kd.R (Kd.int .i64) 3 w110 w.heap.size (fun k_ => some k_ ≠ (.slice Ao107 y216.length co107 : Value).ownBlock ∧ some k_ ≠ (.slice Ao61 t196.length co61 : Value).ownBlock ∧ some k_ ≠ (.slice Ao56 x8_36.length co56 : Value).ownBlock) v225 t224) := ⟨h1_⟩
                      have n2_ : Aside0 (Kd.R (Kd.int .i64) 3 w110 w.heap.size (fun k_ => some k_ ≠ (.slice Ao107 y216.length co107 : Value).ownBlock ∧ some k_ ≠ (v225 : Value).ownBlock ∧ some k_ ≠ (.slice Ao56 x8_36.length co56 : Value).ownBlock) (.slice Ao61 t196.length co61) t196) := ⟨h2_⟩
                      have n3_ : Aside0 (Kd.R (Kd.int .i64) 3 w110 w.heap.size (fun k_ => some k_ ≠ (.slice Ao107 y216.length co107 : Value).ownBlock ∧ some k_ ≠ (v225 : Value).ownBlock ∧ some k_ ≠ (.slice Ao61 t196.length co61 : Value).ownBlock) (.slice Ao56 x8_36.length co56) x8_36) := ⟨h3_⟩
                      have n4_ : Aside0 (w110.heap[gb181]? = some (.cells #[.int .i64 a0_0, .slice A0_1 l0_1.length c0_1] 24 (0, 0))) := ⟨h4_⟩
                      have n5_ : Aside0 (w110.heap[gb182]? = some (.cells #[.int .i64 a1_0, .slice A1_1 l1_1.length c1_1] 24 (0, 0))) := ⟨h5_⟩
                      have n6_ : Aside0 (w110.heap[gb201]? = some (.cells #[.int .i64 t195, .slice Ao61 t196.length co61] 27 (0, 0))) := ⟨h6_⟩
                      have n7_ : Aside0 (w110.heap[gb229]? = some (.cells #[.int .i64 0, .slice none 0 0] 27 (0, 0))) := ⟨h7_⟩
                      have n8_ : Aside0 (w.heap.size ≤ gb229) := ⟨h8_⟩
                      have n9_ : Aside0 (w.heap.size ≤ gb229) := ⟨h9_⟩
                      have n10_ : Aside0 (gb181 ≠ gb229) := ⟨h10_⟩
                      have n11_ : Aside0 (gb229 ≠ gb181) := ⟨h11_⟩
                      have n12_ : Aside0 (gb182 ≠ gb229) := ⟨h12_⟩
                      have n13_ : Aside0 (gb229 ≠ gb182) := ⟨h13_⟩
                      have n14_ : Aside0 (gb201 ≠ gb229) := ⟨h14_⟩
                      have n15_ : Aside0 (gb229 ≠ gb201) := ⟨h15_⟩
                      have n16_ : Aside0 (Below w.heap.size w w110) := ⟨h16_⟩
                      clear HO_8 HO_202001 HO218 BK181 BK182 BK201 HR215 HB h0_ h1_ h2_ h3_ h4_ h5_ h6_ h7_ h8_ h9_ h10_ h11_ h12_ h13_ h14_ h15_ h16_
                      have HO218 := n0_
                      have HO226 := n1_
                      have HO_202001 := n2_
                      have HO_8 := n3_
                      have BK181 := n4_
                      have BK182 := n5_
                      have BK201 := n6_
                      have BK229 := n7_
                      have GW229 := n8_
                      have GE229 := n9_
                      have NB181_229 := n10_
                      have NB229_181 := n11_
                      have NB182_229 := n12_
                      have NB229_182 := n13_
                      have NB201_229 := n14_
                      have NB229_201 := n15_
                      have HB := n16_
                      clear n0_ n1_ n2_ n3_ n4_ n5_ n6_ n7_ n8_ n9_ n10_ n11_ n12_ n13_ n14_ n15_ n16_
                      have hHeld : w110.cell? ⟨gb182, 0, none⟩ = some (.int .i64 a1_0) ∧ w110.cell? ⟨gb182, 1, none⟩ = some (.slice A1_1 l1_1.length c1_1) := hS_
                      obtain ⟨Ao112, co112, eo112⟩ := Kd.R_slice HO226.out
                      (first | subst eo112 | (injection eo112 with f1_ f2_ f3_; have f4_ := f1_.symm; have f5_ := f3_.symm; clear f1_ f2_ f3_; subst f4_; subst f5_))
                      refine norm_ (a' := ?_) ?_ ?_
                      rotate_left
                      ·simp only [putAll, Act.put, List.setIfInBounds_toArray, List.set_cons_zero, List.set_cons_succ]
                       rfl
                      refine one_ (i := 12) (N := none) #[true, true, true, true, true, true, true, true, true, true, true, true, true, false, false] rfl rfl (one_of HT_.out (by kernel_rfl)) (by decide) (fun K hK => ?_)
                      have hs111 : w110.cell? ⟨gb229, 0, none⟩ = some (.int .i64 0) := (blk_cell BK229.out 0).trans rfl
                      have hfs111 := blk_frozen BK229.out 0
                      have hns111_0 := NB181_229.out
                      have hns111_1 := NB182_229.out
                      have hns111_2 := NB201_229.out
                      have hms111_0 := NB229_181.out
                      have hms111_1 := NB229_182.out
                      have hms111_2 := NB229_201.out
                      have hs113 : w110.cell? ⟨gb229, 1, none⟩ = some (.slice none 0 0) := (blk_cell BK229.out 1).trans rfl
                      have hfs113 := blk_frozen BK229.out 1
                      have hns113_0 := NB181_229.out
                      have hns113_1 := NB182_229.out
                      have hns113_2 := NB201_229.out
                      have hms113_0 := NB229_181.out
                      have hms113_1 := NB229_182.out
                      have hms113_2 := NB229_201.out
                      refine skip_ (w1 := ?_) (by rfl) rfl ?_ ?_
                      rotate_left
                      ·go_simp
                       rfl
                      refine hK.out _ _ ⟨((cell_far (p := ⟨gb229, _, none⟩) NB182_229.out _).trans (((cell_far (p := ⟨gb229, _, none⟩) NB182_229.out _).trans (hHeld.1)))), ((cell_far (p := ⟨gb229, _, none⟩) NB182_229.out _).trans (((cell_far (p := ⟨gb229, _, none⟩) NB182_229.out _).trans (hHeld.2))))⟩ (fun hHeld => ?_)
                      clear hK K
                      refine pure_ (i := 13) (N := some 15) (v := ?_) (a' := ?_) #[true, true, true, true, true, true, true, true, true, true, true, true, true, true, false] rfl rfl (any_of HT_.out (by kernel_rfl)) (fun _ _ _ h => h) (Or.inl ⟨by rfl, ?_⟩) ?_ ?_
                      rotate_left
                      ·intro w'
                       go_simp
                       with_reducible rfl
                      rotate_left
                      ·simp only [Act.put, sa_, sz_, ss_, i64_w, i32_w]
                       rfl
                      refine pure_ (i := 14) (N := some 16) (v := ?_) (a' := ?_) #[true, true, true, true, true, true, true, true, true, true, true, true, true, true, true] rfl rfl (any_of HT_.out (by kernel_rfl)) (fun _ _ _ h => h) (Or.inl ⟨by rfl, ?_⟩) ?_ ?_
                      rotate_left
                      ·intro w'
                       go_simp
                       with_reducible rfl
                      rotate_left
                      ·simp only [Act.put, sa_, sz_, ss_, i64_w, i32_w]
                       rfl
                      refine done_ (done_of HT_.out (by kernel_rfl)) ?_
                      go_upto_region 16 with (fail)
                      go_cut [140] (fun v140 wc => ∃ (kq : Nat) (x140_97 : Bool), v140 = .bool x140_97 ∧ Aside0 (standstilllaw06_CounterJoined.j5 kq x8_36 t199 y216 t227 t228 x140_97 a0_0 l0_1 a1_0 l1_1 t223 t224 = some r) ∧ Aside0 (kq ≤ kj71) ∧ Aside0 (Kd.R (Kd.int .i64) 3 wc w.heap.size (fun k_ => some k_ ≠ ((.slice Ao107 y216.length co107) : Value).ownBlock ∧ some k_ ≠ ((.slice Ao61 t196.length co61) : Value).ownBlock ∧ some k_ ≠ ((.slice Ao112 t224.length co112) : Value).ownBlock) (.slice Ao56 x8_36.length co56) x8_36) ∧ Aside0 (Kd.R (Kd.int .i64) 3 wc w.heap.size (fun k_ => some k_ ≠ ((.slice Ao56 x8_36.length co56) : Value).ownBlock ∧ some k_ ≠ ((.slice Ao61 t196.length co61) : Value).ownBlock ∧ some k_ ≠ ((.slice Ao112 t224.length co112) : Value).ownBlock) (.slice Ao107 y216.length co107) y216) ∧ Aside0 (Kd.R (Kd.int .i64) 3 wc w.heap.size (fun k_ => some k_ ≠ ((.slice Ao56 x8_36.length co56) : Value).ownBlock ∧ some k_ ≠ ((.slice Ao107 y216.length co107) : Value).ownBlock ∧ some k_ ≠ ((.slice Ao112 t224.length co112) : Value).ownBlock) (.slice Ao61 t196.length co61) t196) ∧ Aside0 (Kd.R (Kd.int .i64) 3 wc w.heap.size (fun k_ => some k_ ≠ ((.slice Ao56 x8_36.length co56) : Value).ownBlock ∧ some k_ ≠ ((.slice Ao107 y216.length co107) : Value).ownBlock ∧ some k_ ≠ ((.slice Ao61 t196.length co61) : Value).ownBlock) (.slice Ao112 t224.length co112) t224) ∧ Aside0 (wc.heap[gb181]? = some (.cells #[.int .i64 a0_0, (.slice A0_1 l0_1.length c0_1)] 24 (0, 0))) ∧ Aside0 (wc.heap[gb182]? = some (.cells #[.int .i64 a1_0, (.slice A1_1 l1_1.length c1_1)] 24 (0, 0))) ∧ Aside0 (wc.heap[gb201]? = some (.cells #[.int .i64 t195, (.slice Ao61 t196.length co61)] 27 (0, 0))) ∧ Aside0 (wc.heap[gb229]? = some (.cells #[.int .i64 t223, (.slice Ao112 t224.length co112)] 27 (0, 0))) ∧ Aside0 (Below w.heap.size w wc))
                      case first => as_aux_lemma =>
                       have H := HC98.out
                       clear HC98
                       by_cases c114 : t228 = 0
                       ·rw [if_pos c114] at H
                        have c114b0 : (t228 == 0) = true := beq_iff_eq.mpr c114
                        have c114b1 : (t228 != 0) = false := bne_eq_false_iff_eq.mpr c114
                        clear c114
                        (first | rw [c114b0] | (simp only [i64_w, i32_w]; rw [c114b0]) | skip)
                        replace H := Option.bind_eq_some_iff.mp H
                        obtain ⟨t230, A1150, H⟩ := H
                        replace H : (standstilllaw06_CounterJoined.j5 kj71 x8_36 t199 y216 t227 t228 (!t230) a0_0 l0_1 a1_0 l1_1 t223 t224) = some r := H
                        have A115 := Aside0.mk A1150
                        clear A1150
                        have H' := Aside0.mk H
                        clear H
                        have hnb116 := NB182_181.out
                        have hnc116 := NB181_182.out
                        have hnb117 := NB182_201.out
                        have hnc117 := NB201_182.out
                        have hnb118 := NB182_229.out
                        have hnc118 := NB229_182.out
                        have hcz119_0 : w110.cell? ⟨gb182, 0, none⟩ = some (.int .i64 a1_0) := (blk_cell BK182.out 0).trans rfl
                        have hcz119_1 : w110.cell? ⟨gb182, 1, none⟩ = some (.slice A1_1 l1_1.length c1_1) := (blk_cell BK182.out 1).trans rfl
                        have hfz119_0 := blk_frozen BK182.out 0
                        have hfz119_1 := blk_frozen BK182.out 1
                        have hnb120 := NB229_181.out
                        have hnc120 := NB181_229.out
                        have hnb121 := NB229_201.out
                        have hnc121 := NB201_229.out
                        have hcz122_0 : w110.cell? ⟨gb229, 0, none⟩ = some (.int .i64 0) := (blk_cell BK229.out 0).trans rfl
                        have hcz122_1 : w110.cell? ⟨gb229, 1, none⟩ = some (.slice none 0 0) := (blk_cell BK229.out 1).trans rfl
                        have hfz122_0 := blk_frozen BK229.out 0
                        have hfz122_1 := blk_frozen BK229.out 1
                        go_wp2_with (first | (go_at_call 9; (with_reducible refine (standstillref06_Fits.calls kj71 a1_0 _ _ l1_1 t223 _ _ t224 t230 _ ?side1 ?side2 ?side3 ?side4 A115.out).mono ?_); (case side1 => exact Kd.C_below HR1_1.out (bk_ HB.out)); (case side2 => exact HC1_1.out); (case side3 => refine (Kd.R_reads' (e := 3) (base := w.heap.size) (ok := fun k_ => (some k_ ≠ (.slice Ao107 y216.length co107 : Value).ownBlock ∧ (some k_ ≠ (.slice Ao61 t196.length co61 : Value).ownBlock ∧ some k_ ≠ (.slice Ao56 x8_36.length co56 : Value).ownBlock))) (n := t224.length) (c := co112) ?_).2.2; exact (by (with_reducible repeat (first | apply Kd.R_alloc | apply Kd.R_drewN | apply Kd.R_drew)); exact (Kd.R_mono (Kd.R_far (p := ⟨gb229, 1, none⟩) (Kd.R_far (p := ⟨gb229, 0, none⟩) (Kd.R_types HO226.out BK229.out (by decide)) (fun _ hk => hk.2) (.int .i64 t223)) (fun _ hk => hk.2) (.slice Ao112 t224.length co112)) (fun _ h_ => h_.1)))); (case side4 => exact (Kd.R_reads' HO226.out).2.1); rintro e w123 ⟨rfl, hb⟩; have n0_ := A_ (Kd.R_below (by (with_reducible repeat (first | apply Kd.R_alloc | apply Kd.R_drewN | apply Kd.R_drew)); exact (Kd.R_mono (Kd.R_far (p := ⟨gb229, 1, none⟩) (Kd.R_far (p := ⟨gb229, 0, none⟩) (Kd.R_types HO_8.out BK229.out (by decide)) (fun _ hk => hk.2) (.int .i64 t223)) (fun _ hk => hk.2) (.slice Ao112 t224.length co112)) (fun _ h_ => h_.1))) hb); have n1_ := A_ (Kd.R_below (by (with_reducible repeat (first | apply Kd.R_alloc | apply Kd.R_drewN | apply Kd.R_drew)); exact (Kd.R_mono (Kd.R_far (p := ⟨gb229, 1, none⟩) (Kd.R_far (p := ⟨gb229, 0, none⟩) (Kd.R_types HO_202001.out BK229.out (by decide)) (fun _ hk => hk.2) (.int .i64 t223)) (fun _ hk => hk.2) (.slice Ao112 t224.length co112)) (fun _ h_ => h_.1))) hb); have n2_ := A_ (Kd.R_below (by (with_reducible repeat (first | apply Kd.R_alloc | apply Kd.R_drewN | apply Kd.R_drew)); exact (Kd.R_mono (Kd.R_far (p := ⟨gb229, 1, none⟩) (Kd.R_far (p := ⟨gb229, 0, none⟩) (Kd.R_types HO218.out BK229.out (by decide)) (fun _ hk => hk.2) (.int .i64 t223)) (fun _ hk => hk.2) (.slice Ao112 t224.length co112)) (fun _ h_ => h_.1))) hb); have n3_ := A_ (Kd.R_below (by (with_reducible repeat (first | apply Kd.R_alloc | apply Kd.R_drewN | apply Kd.R_drew)); exact (Kd.R_mono (Kd.R_far (p := ⟨gb229, 1, none⟩) (Kd.R_far (p := ⟨gb229, 0, none⟩) (Kd.R_types HO226.out BK229.out (by decide)) (fun _ hk => hk.2) (.int .i64 t223)) (fun _ hk => hk.2) (.slice Ao112 t224.length co112)) (fun _ h_ => h_.1))) hb); have n4_ := A_ (blk_below (g := gb181) (o := .cells #[.int .i64 a0_0, .slice A0_1 l0_1.length c0_1] 24 (0, 0)) (by refine pk_ ?_; refine blk_far ?_ NB181_229.out _; refine pk_ ?_; refine blk_far ?_ NB181_229.out _; exact pk_ BK181.out) hb); have n5_ := A_ (blk_below (g := gb182) (o := .cells #[.int .i64 a1_0, .slice A1_1 l1_1.length c1_1] 24 (0, 0)) (by refine pk_ ?_; refine blk_far ?_ NB182_229.out _; refine pk_ ?_; refine blk_far ?_ NB182_229.out _; exact pk_ BK182.out) hb); have n6_ := A_ (blk_below (g := gb201) (o := .cells #[.int .i64 t195, .slice Ao61 t196.length co61] 27 (0, 0)) (by refine pk_ ?_; refine blk_far ?_ NB201_229.out _; refine pk_ ?_; refine blk_far ?_ NB201_229.out _; exact pk_ BK201.out) hb); have n7_ := A_ (blk_below (g := gb229) (o := .cells #[.int .i64 t223, .slice Ao112 t224.length co112] 27 (0, 0)) (by refine pk_ ?_; refine blk_put (cs := #[.int .i64 t223, .slice none 0 0]) ?_ 1 _ rfl; refine pk_ ?_; refine blk_put (cs := #[.int .i64 0, .slice none 0 0]) ?_ 0 _ rfl; exact pk_ BK229.out) hb); have n8_ := A_ (below_step (bk_ HB.out) hb); clear HO_8 HO_202001 HO218 HO226 BK181 BK182 BK201 BK229 HB; have HO_8 := n0_; have HO_202001 := n1_; have HO218 := n2_; have HO226 := n3_; have BK181 := n4_; have BK182 := n5_; have BK201 := n6_; have BK229 := n7_; have HB := n8_; clear n0_ n1_ n2_ n3_ n4_ n5_ n6_ n7_ n8_; (try clear hb); (try clear hb2); (try clear hk); (try clear hi)))
                        go_meet
                        case rel => exact ⟨_, (!t230), jr_, H', ⟨by have := HJ3.out; have := HJ36.out; have := HJ52.out; have := HJ71.out; first | omega | exact Nat.le_refl _⟩, ⟨by (with_reducible repeat (first | apply Kd.R_alloc | apply Kd.R_drewN | apply Kd.R_drew)); exact Kd.R_mono HO_8.out (fun _ hk => ⟨hk.1, ⟨hk.2.2, hk.2.1⟩⟩)⟩, ⟨by (with_reducible repeat (first | apply Kd.R_alloc | apply Kd.R_drewN | apply Kd.R_drew)); exact Kd.R_mono HO218.out (fun _ hk => ⟨hk.2.2, ⟨hk.2.1, hk.1⟩⟩)⟩, ⟨by (with_reducible repeat (first | apply Kd.R_alloc | apply Kd.R_drewN | apply Kd.R_drew)); exact Kd.R_mono HO_202001.out (fun _ hk => ⟨hk.2.2, ⟨hk.1, hk.2.1⟩⟩)⟩, ⟨by (with_reducible repeat (first | apply Kd.R_alloc | apply Kd.R_drewN | apply Kd.R_drew)); exact Kd.R_mono HO226.out (fun _ hk => ⟨hk.2.2, ⟨hk.1, hk.2.1⟩⟩)⟩, ⟨pk_ BK181.out⟩, ⟨pk_ BK182.out⟩, ⟨pk_ BK201.out⟩, ⟨pk_ BK229.out⟩, ⟨bk_ HB.out⟩⟩
                       ·rw [if_neg c114] at H
                        have c114b0 : (t228 == 0) = false := beq_eq_false_iff_ne.mpr c114
                        have c114b1 : (t228 != 0) = true := bne_iff_ne.mpr c114
                        (first | rw [c114b0] | (simp only [i64_w, i32_w]; rw [c114b0]) | skip)
                        have H' := Aside0.mk H
                        clear H
                        go_wp2
                        go_meet
                        case rel => exact ⟨_, (false), jr_, H', ⟨by have := HJ3.out; have := HJ36.out; have := HJ52.out; have := HJ71.out; first | omega | exact Nat.le_refl _⟩, ⟨by (with_reducible repeat (first | apply Kd.R_alloc | apply Kd.R_drewN | apply Kd.R_drew)); exact Kd.R_mono (Kd.R_far (p := ⟨gb229, 1, none⟩) (Kd.R_far (p := ⟨gb229, 0, none⟩) (Kd.R_types HO_8.out BK229.out (by decide)) (fun _ hk => hk.2) (.int .i64 t223)) (fun _ hk => hk.2) (.slice Ao112 t224.length co112)) (fun _ hk => ⟨hk.1.1, ⟨hk.1.2.2, hk.1.2.1⟩⟩)⟩, ⟨by (with_reducible repeat (first | apply Kd.R_alloc | apply Kd.R_drewN | apply Kd.R_drew)); exact Kd.R_mono (Kd.R_far (p := ⟨gb229, 1, none⟩) (Kd.R_far (p := ⟨gb229, 0, none⟩) (Kd.R_types HO218.out BK229.out (by decide)) (fun _ hk => hk.2) (.int .i64 t223)) (fun _ hk => hk.2) (.slice Ao112 t224.length co112)) (fun _ hk => ⟨hk.1.2.2, ⟨hk.1.2.1, hk.1.1⟩⟩)⟩, ⟨by (with_reducible repeat (first | apply Kd.R_alloc | apply Kd.R_drewN | apply Kd.R_drew)); exact Kd.R_mono (Kd.R_far (p := ⟨gb229, 1, none⟩) (Kd.R_far (p := ⟨gb229, 0, none⟩) (Kd.R_types HO_202001.out BK229.out (by decide)) (fun _ hk => hk.2) (.int .i64 t223)) (fun _ hk => hk.2) (.slice Ao112 t224.length co112)) (fun _ hk => ⟨hk.1.2.2, ⟨hk.1.1, hk.1.2.1⟩⟩)⟩, ⟨by (with_reducible repeat (first | apply Kd.R_alloc | apply Kd.R_drewN | apply Kd.R_drew)); exact Kd.R_mono (Kd.R_far (p := ⟨gb229, 1, none⟩) (Kd.R_far (p := ⟨gb229, 0, none⟩) (Kd.R_types HO226.out BK229.out (by decide)) (fun _ hk => hk.2) (.int .i64 t223)) (fun _ hk => hk.2) (.slice Ao112 t224.length co112)) (fun _ hk => ⟨hk.1.2.2, ⟨hk.1.1, hk.1.2.1⟩⟩)⟩, ⟨by refine pk_ ?_; refine blk_far ?_ NB181_229.out _; refine pk_ ?_; refine blk_far ?_ NB181_229.out _; exact pk_ BK181.out⟩, ⟨by refine pk_ ?_; refine blk_far ?_ NB182_229.out _; refine pk_ ?_; refine blk_far ?_ NB182_229.out _; exact pk_ BK182.out⟩, ⟨by refine pk_ ?_; refine blk_far ?_ NB201_229.out _; refine pk_ ?_; refine blk_far ?_ NB201_229.out _; exact pk_ BK201.out⟩, ⟨by refine pk_ ?_; refine blk_put (cs := #[.int .i64 t223, .slice none 0 0]) ?_ 1 _ rfl; refine pk_ ?_; refine blk_put (cs := #[.int .i64 0, .slice none 0 0]) ?_ 0 _ rfl; exact pk_ BK229.out⟩, ⟨bk_ HB.out⟩⟩
                      case rest => as_aux_lemma =>
                       clear HC98
                       (try clear c1); (try clear c94); (try clear q106); (try clear q106)
                       obtain ⟨kq, x140_97, rfl, HA, HJ97, HO_8, HO_13, HO_202001, HO_230001, BK181, BK182, BK201, BK229, HB⟩ := hcut
                       cases kq with
                       | zero => exact absurd HA.out (by simp [standstilllaw06_CounterJoined.j5])
                       | succ kj97 =>
                        have H := HA.out
                        clear HA
                        simp only [standstilllaw06_CounterJoined.j5] at H
                        by_cases c124 : x140_97 = true
                        ·subst c124
                         have H1 : (none) = some r := by rw [if_pos rfl] at H; exact H
                         clear H
                         have H := H1
                         clear H1
                         exact absurd H (by simp)
                        ·replace c124 := Bool.eq_false_iff.mpr c124
                         subst c124
                         have H1 : (if t228 = 0 then (if 0 ≤ t223 then (if t223 < (l1_1.length : Int) then (standstilllaw06_CounterJoined.j6 kj97 x8_36 t199 y216 t227 (((rd_T33 l1_1 t223).f0) != 2) a0_0 l0_1 a1_0 l1_1 t223 t224) else (none)) else (none)) else (standstilllaw06_CounterJoined.j6 kj97 x8_36 t199 y216 t227 true a0_0 l0_1 a1_0 l1_1 t223 t224)) = some r := by rw [if_neg (show ¬ (false = true) by decide)] at H; exact H
                         clear H
                         have H := H1
                         clear H1
                         have HC125 := Aside0.mk H
                         clear H
                         go_upto_region 18 with (fail)
                         go_cut [152] (fun v152 wc => ∃ (kq : Nat) (x152_124 : Bool), v152 = .bool x152_124 ∧ Aside0 (standstilllaw06_CounterJoined.j6 kq x8_36 t199 y216 t227 x152_124 a0_0 l0_1 a1_0 l1_1 t223 t224 = some r) ∧ Aside0 (kq ≤ kj97) ∧ Aside0 (Kd.R (Kd.int .i64) 3 wc w.heap.size (fun k_ => some k_ ≠ ((.slice Ao107 y216.length co107) : Value).ownBlock ∧ some k_ ≠ ((.slice Ao61 t196.length co61) : Value).ownBlock ∧ some k_ ≠ ((.slice Ao112 t224.length co112) : Value).ownBlock) (.slice Ao56 x8_36.length co56) x8_36) ∧ Aside0 (Kd.R (Kd.int .i64) 3 wc w.heap.size (fun k_ => some k_ ≠ ((.slice Ao56 x8_36.length co56) : Value).ownBlock ∧ some k_ ≠ ((.slice Ao61 t196.length co61) : Value).ownBlock ∧ some k_ ≠ ((.slice Ao112 t224.length co112) : Value).ownBlock) (.slice Ao107 y216.length co107) y216) ∧ Aside0 (Kd.R (Kd.int .i64) 3 wc w.heap.size (fun k_ => some k_ ≠ ((.slice Ao56 x8_36.length co56) : Value).ownBlock ∧ some k_ ≠ ((.slice Ao107 y216.length co107) : Value).ownBlock ∧ some k_ ≠ ((.slice Ao112 t224.length co112) : Value).ownBlock) (.slice Ao61 t196.length co61) t196) ∧ Aside0 (Kd.R (Kd.int .i64) 3 wc w.heap.size (fun k_ => some k_ ≠ ((.slice Ao56 x8_36.length co56) : Value).ownBlock ∧ some k_ ≠ ((.slice Ao107 y216.length co107) : Value).ownBlock ∧ some k_ ≠ ((.slice Ao61 t196.length co61) : Value).ownBlock) (.slice Ao112 t224.length co112) t224) ∧ Aside0 (wc.heap[gb181]? = some (.cells #[.int .i64 a0_0, (.slice A0_1 l0_1.length c0_1)] 24 (0, 0))) ∧ Aside0 (wc.heap[gb182]? = some (.cells #[.int .i64 a1_0, (.slice A1_1 l1_1.length c1_1)] 24 (0, 0))) ∧ Aside0 (wc.heap[gb201]? = some (.cells #[.int .i64 t195, (.slice Ao61 t196.length co61)] 27 (0, 0))) ∧ Aside0 (wc.heap[gb229]? = some (.cells #[.int .i64 t223, (.slice Ao112 t224.length co112)] 27 (0, 0))) ∧ Aside0 (Below w.heap.size w wc))
                         case first => as_aux_lemma =>
                          have H := HC125.out
                          clear HC125
                          by_cases c126 : t228 = 0
                          ·rw [if_pos c126] at H
                           have c126b0 : (t228 == 0) = true := beq_iff_eq.mpr c126
                           have c126b1 : (t228 != 0) = false := bne_eq_false_iff_eq.mpr c126
                           clear c126
                           (first | rw [c126b0] | (simp only [i64_w, i32_w]; rw [c126b0]) | skip)
                           by_cases c127 : 0 ≤ t223
                           ·rw [if_pos c127] at H
                            have c127b0 : decide (0 ≤ t223) = true := decide_eq_true c127
                            clear c127
                            by_cases c128 : t223 < (l1_1.length : Int)
                            ·rw [if_pos c128] at H
                             have c128b0 : decide (t223 < (l1_1.length : Int)) = true := decide_eq_true c128
                             clear c128
                             have H' := Aside0.mk H
                             clear H
                             have hnb129 := NB182_181.out
                             have hnc129 := NB181_182.out
                             have hnb130 := NB182_201.out
                             have hnc130 := NB201_182.out
                             have hnb131 := NB182_229.out
                             have hnc131 := NB229_182.out
                             have hcz132_0 : wc.cell? ⟨gb182, 0, none⟩ = some (.int .i64 a1_0) := (blk_cell BK182.out 0).trans rfl
                             have hcz132_1 : wc.cell? ⟨gb182, 1, none⟩ = some (.slice A1_1 l1_1.length c1_1) := (blk_cell BK182.out 1).trans rfl
                             have hfz132_0 := blk_frozen BK182.out 0
                             have hfz132_1 := blk_frozen BK182.out 1
                             have hnb133 := NB229_181.out
                             have hnc133 := NB181_229.out
                             have hnb134 := NB229_201.out
                             have hnc134 := NB201_229.out
                             have hcz135_0 : wc.cell? ⟨gb229, 0, none⟩ = some (.int .i64 t223) := (blk_cell BK229.out 0).trans rfl
                             have hcz135_1 : wc.cell? ⟨gb229, 1, none⟩ = some (.slice Ao112 t224.length co112) := (blk_cell BK229.out 1).trans rfl
                             have hfz135_0 := blk_frozen BK229.out 0
                             have hfz135_1 := blk_frozen BK229.out 1
                             have p231 : 0 ≤ (t223 : Int) := od_
                             have q231 : t223 < (l1_1.length : Int) := od_
                             obtain ⟨ad231, e231, hx231_0, hx231_1, hx231_2, hx231_3⟩ := at_T33 HR1_1.out t223 p231 q231
                             cases e231
                             replace hx231_0 := lf_ HB.out hx231_0
                             replace hx231_1 := lf_ HB.out hx231_1
                             replace hx231_2 := lf_ HB.out hx231_2
                             replace hx231_3 := lf_ HB.out hx231_3
                             replace p231 := eq_true p231
                             replace q231 := eq_true q231
                             go_wp2
                             go_meet
                             case rel => exact ⟨_, ((((rd_T33 l1_1 t223).f0) != 2)), jr_, H', ⟨by have := HJ3.out; have := HJ36.out; have := HJ52.out; have := HJ71.out; have := HJ97.out; first | omega | exact Nat.le_refl _⟩, ⟨rk_ HO_8.out⟩, ⟨rk_ HO_13.out⟩, ⟨rk_ HO_202001.out⟩, ⟨rk_ HO_230001.out⟩, ⟨pk_ BK181.out⟩, ⟨pk_ BK182.out⟩, ⟨pk_ BK201.out⟩, ⟨pk_ BK229.out⟩, ⟨bk_ HB.out⟩⟩
                            ·rw [if_neg c128] at H
                             exact absurd H (by simp)
                           ·rw [if_neg c127] at H
                            exact absurd H (by simp)
                          ·rw [if_neg c126] at H
                           have c126b0 : (t228 == 0) = false := beq_eq_false_iff_ne.mpr c126
                           have c126b1 : (t228 != 0) = true := bne_iff_ne.mpr c126
                           (first | rw [c126b0] | (simp only [i64_w, i32_w]; rw [c126b0]) | skip)
                           have H' := Aside0.mk H
                           clear H
                           go_wp2
                           go_meet
                           case rel => exact ⟨_, (true), jr_, H', ⟨by have := HJ3.out; have := HJ36.out; have := HJ52.out; have := HJ71.out; have := HJ97.out; first | omega | exact Nat.le_refl _⟩, ⟨rk_ HO_8.out⟩, ⟨rk_ HO_13.out⟩, ⟨rk_ HO_202001.out⟩, ⟨rk_ HO_230001.out⟩, ⟨pk_ BK181.out⟩, ⟨pk_ BK182.out⟩, ⟨pk_ BK201.out⟩, ⟨pk_ BK229.out⟩, ⟨bk_ HB.out⟩⟩
                         case rest => as_aux_lemma =>
                          clear HC125
                          (try clear c1); (try clear c94); (try clear q106); (try clear c124); (try clear q106)
                          obtain ⟨kq, x152_124, rfl, HA, HJ124, HO_8, HO_13, HO_202001, HO_230001, BK181, BK182, BK201, BK229, HB⟩ := hcut
                          cases kq with
                          | zero => exact absurd HA.out (by simp [standstilllaw06_CounterJoined.j6])
                          | succ kj124 =>
                           have H := HA.out
                           clear HA
                           simp only [standstilllaw06_CounterJoined.j6] at H
                           by_cases c136 : x152_124 = true
                           ·subst c136
                            have H1 : ((standstilllaw06_awake.f kj124).bind fun t232 => (some t232)) = some r := by rw [if_pos rfl] at H; exact H
                            clear H
                            have H := H1
                            clear H1
                            replace H := Option.bind_eq_some_iff.mp H
                            obtain ⟨t232, A1370, H⟩ := H
                            replace H : (some t232) = some r := H
                            have A137 := Aside0.mk A1370
                            clear A1370
                            obtain rfl := Option.some.inj H
                            go_wp2_with (first | ((with_reducible refine gate_callee (f := 10) rfl ?_); refine goesL_ (some 153) rfl rfl Try.func10 (by kernel_rfl) rfl #[] rfl gl_ ?_; (with_reducible refine (standstilllaw06_awake.calls kj124  t232 _ A137.out).mono ?_); rintro e w138 ⟨rfl, hb⟩; refine ⟨_, rfl, ?_⟩; have n0_ := A_ (Kd.R_below (rk_ HO_8.out) hb); have n1_ := A_ (Kd.R_below (rk_ HO_13.out) hb); have n2_ := A_ (Kd.R_below (rk_ HO_202001.out) hb); have n3_ := A_ (Kd.R_below (rk_ HO_230001.out) hb); have n4_ := A_ (blk_below (pk_ BK181.out) hb); have n5_ := A_ (blk_below (pk_ BK182.out) hb); have n6_ := A_ (blk_below (pk_ BK201.out) hb); have n7_ := A_ (blk_below (pk_ BK229.out) hb); have n8_ := A_ (below_step (bk_ HB.out) hb); clear HO_8 HO_13 HO_202001 HO_230001 BK181 BK182 BK201 BK229 HB; have HO_8 := n0_; have HO_13 := n1_; have HO_202001 := n2_; have HO_230001 := n3_; have BK181 := n4_; have BK182 := n5_; have BK201 := n6_; have BK229 := n7_; have HB := n8_; clear n0_ n1_ n2_ n3_ n4_ n5_ n6_ n7_ n8_; (try clear hb); (try clear hb2); (try clear hk); (try clear hi)))
                            go_ret
                            exact ⟨by first | rfl | (simp [errW_none, errW_some] <;> rfl) | (simp only [← hji34]; first | rfl | (simp [errW_none, errW_some] <;> rfl)) | (simp [*, errW_none, errW_some] <;> rfl), bk_ HB.out⟩
                           ·replace c136 := Bool.eq_false_iff.mpr c136
                            subst c136
                            have H1 : ((counter_Join.f kj124 a0_0 l0_1 a1_0 l1_1).bind fun bt233 => ((counter_Run.f kj124 bt233.1 bt233.2.1 0 x8_36 10000).bind fun bt239 => ((some (([] : List Int) : List Int)).bind fun y246 => (if y246.length + t224.length < 17592186044416 then ((some (y246 ++ t224 : List Int)).bind fun y249 => (if 0 ≤ a1_0 then (if a1_0 ≤ (y216.length : Int) then ((some (y216.drop (a1_0 : Int).toNat : List Int)).bind fun y252 => (if y249.length + y252.length < 17592186044416 then (if bt233.2.2 = 0 then (if bt239.2.2.2 = 0 then (if bt239.2.2.1 = (wrap64 ((wrap64 (t199 + t227)) + 2)) then (if bt239.1 ≥ 0 then (if bt239.1 < (bt233.2.1.length : Int) then (if 0 ≤ bt239.1 then (if ((rd_T33 bt233.2.1 bt239.1).f0) = 2 then ((standstillref06_SameCount.f kj124 0 (y249 ++ y252) 0 bt239.2.1).bind fun t260 => (if t260 = true then ((standstilllaw06_awake.f kj124).bind fun t261 => (some t261)) else (none))) else (none)) else (none)) else (none)) else (none)) else (none)) else (none)) else (none)) else (none))) else (none)) else (none))) else (none))))) = some r := by rw [if_neg (show ¬ (false = true) by decide)] at H; exact H
                            clear H
                            have H := H1
                            clear H1
                            replace H := Option.bind_eq_some_iff.mp H
                            obtain ⟨⟨t233, t234, t237⟩, A1390, H⟩ := H
                            replace H : ((counter_Run.f kj124 t233 t234 0 x8_36 10000).bind fun bt239 => ((some (([] : List Int) : List Int)).bind fun y246 => (if y246.length + t224.length < 17592186044416 then ((some (y246 ++ t224 : List Int)).bind fun y249 => (if 0 ≤ a1_0 then (if a1_0 ≤ (y216.length : Int) then ((some (y216.drop (a1_0 : Int).toNat : List Int)).bind fun y252 => (if y249.length + y252.length < 17592186044416 then (if t237 = 0 then (if bt239.2.2.2 = 0 then (if bt239.2.2.1 = (wrap64 ((wrap64 (t199 + t227)) + 2)) then (if bt239.1 ≥ 0 then (if bt239.1 < (t234.length : Int) then (if 0 ≤ bt239.1 then (if ((rd_T33 t234 bt239.1).f0) = 2 then ((standstillref06_SameCount.f kj124 0 (y249 ++ y252) 0 bt239.2.1).bind fun t260 => (if t260 = true then ((standstilllaw06_awake.f kj124).bind fun t261 => (some t261)) else (none))) else (none)) else (none)) else (none)) else (none)) else (none)) else (none)) else (none)) else (none))) else (none)) else (none))) else (none)))) = some r := H
                            have A139 := Aside0.mk A1390
                            clear A1390
                            replace H := Option.bind_eq_some_iff.mp H
                            obtain ⟨⟨t239, t240, t243, t244⟩, A1400, H⟩ := H
                            replace H : ((some (([] : List Int) : List Int)).bind fun y246 => (if y246.length + t224.length < 17592186044416 then ((some (y246 ++ t224 : List Int)).bind fun y249 => (if 0 ≤ a1_0 then (if a1_0 ≤ (y216.length : Int) then ((some (y216.drop (a1_0 : Int).toNat : List Int)).bind fun y252 => (if y249.length + y252.length < 17592186044416 then (if t237 = 0 then (if t244 = 0 then (if t243 = (wrap64 ((wrap64 (t199 + t227)) + 2)) then (if t239 ≥ 0 then (if t239 < (t234.length : Int) then (if 0 ≤ t239 then (if ((rd_T33 t234 t239).f0) = 2 then ((standstillref06_SameCount.f kj124 0 (y249 ++ y252) 0 t240).bind fun t260 => (if t260 = true then ((standstilllaw06_awake.f kj124).bind fun t261 => (some t261)) else (none))) else (none)) else (none)) else (none)) else (none)) else (none)) else (none)) else (none)) else (none))) else (none)) else (none))) else (none))) = some r := H
                            have A140 := Aside0.mk A1400
                            clear A1400
                            obtain ⟨y246, hy246⟩ : ∃ y_ : List Int, y_ = (([] : List Int)) := ⟨_, rfl⟩
                            replace H : (if y246.length + t224.length < 17592186044416 then ((some (y246 ++ t224 : List Int)).bind fun y249 => (if 0 ≤ a1_0 then (if a1_0 ≤ (y216.length : Int) then ((some (y216.drop (a1_0 : Int).toNat : List Int)).bind fun y252 => (if y249.length + y252.length < 17592186044416 then (if t237 = 0 then (if t244 = 0 then (if t243 = (wrap64 ((wrap64 (t199 + t227)) + 2)) then (if t239 ≥ 0 then (if t239 < (t234.length : Int) then (if 0 ≤ t239 then (if ((rd_T33 t234 t239).f0) = 2 then ((standstillref06_SameCount.f kj124 0 (y249 ++ y252) 0 t240).bind fun t260 => (if t260 = true then ((standstilllaw06_awake.f kj124).bind fun t261 => (some t261)) else (none))) else (none)) else (none)) else (none)) else (none)) else (none)) else (none)) else (none)) else (none))) else (none)) else (none))) else (none)) = some r := by first | (rw [hy246]; with_reducible exact H) | (have H2_ := (Option.bind_some _ _).symm.trans H; rw [hy246]; with_reducible exact H2_) | (have H2_ := (Option.bind_some _ _).symm.trans H; with_reducible exact H2_) | with_reducible exact H | (rw [hy246]; exact H) | exact H
                            have Ny246 := Aside0.mk hy246
                            clear hy246
                            by_cases c141 : y246.length + t224.length < 17592186044416
                            ·rw [if_pos c141] at H
                             have LMc141 := Aside0.mk c141
                             clear c141
                             obtain ⟨y249, hy249⟩ : ∃ y_ : List Int, y_ = (y246 ++ t224) := ⟨_, rfl⟩
                             replace H : (if 0 ≤ a1_0 then (if a1_0 ≤ (y216.length : Int) then ((some (y216.drop (a1_0 : Int).toNat : List Int)).bind fun y252 => (if y249.length + y252.length < 17592186044416 then (if t237 = 0 then (if t244 = 0 then (if t243 = (wrap64 ((wrap64 (t199 + t227)) + 2)) then (if t239 ≥ 0 then (if t239 < (t234.length : Int) then (if 0 ≤ t239 then (if ((rd_T33 t234 t239).f0) = 2 then ((standstillref06_SameCount.f kj124 0 (y249 ++ y252) 0 t240).bind fun t260 => (if t260 = true then ((standstilllaw06_awake.f kj124).bind fun t261 => (some t261)) else (none))) else (none)) else (none)) else (none)) else (none)) else (none)) else (none)) else (none)) else (none))) else (none)) else (none)) = some r := by first | (rw [hy249]; with_reducible exact H) | (have H2_ := (Option.bind_some _ _).symm.trans H; rw [hy249]; with_reducible exact H2_) | (have H2_ := (Option.bind_some _ _).symm.trans H; with_reducible exact H2_) | with_reducible exact H | (rw [hy249]; exact H) | exact H
                             have Ny249 := Aside0.mk hy249
                             clear hy249
                             by_cases c142 : 0 ≤ a1_0
                             ·rw [if_pos c142] at H
                              have c142b0 := eq_true c142
                              have c142b1 : decide (0 ≤ a1_0) = true := decide_eq_true c142
                              clear c142
                              by_cases c143 : a1_0 ≤ (y216.length : Int)
                              ·rw [if_pos c143] at H
                               have c143b0 := eq_true c143
                               have c143b1 : decide (a1_0 ≤ (y216.length : Int)) = true := decide_eq_true c143
                               clear c143
                               obtain ⟨y252, hy252⟩ : ∃ y_ : List Int, y_ = (y216.drop (a1_0 : Int).toNat) := ⟨_, rfl⟩
                               replace H : (if y249.length + y252.length < 17592186044416 then (if t237 = 0 then (if t244 = 0 then (if t243 = (wrap64 ((wrap64 (t199 + t227)) + 2)) then (if t239 ≥ 0 then (if t239 < (t234.length : Int) then (if 0 ≤ t239 then (if ((rd_T33 t234 t239).f0) = 2 then ((standstillref06_SameCount.f kj124 0 (y249 ++ y252) 0 t240).bind fun t260 => (if t260 = true then ((standstilllaw06_awake.f kj124).bind fun t261 => (some t261)) else (none))) else (none)) else (none)) else (none)) else (none)) else (none)) else (none)) else (none)) else (none)) = some r := by first | (rw [hy252]; with_reducible exact H) | (have H2_ := (Option.bind_some _ _).symm.trans H; rw [hy252]; with_reducible exact H2_) | (have H2_ := (Option.bind_some _ _).symm.trans H; with_reducible exact H2_) | with_reducible exact H | (rw [hy252]; exact H) | exact H
                               have Ny252 := Aside0.mk hy252
                               clear hy252
                               by_cases c144 : y249.length + y252.length < 17592186044416
                               ·rw [if_pos c144] at H
                                have LMc144 := Aside0.mk c144
                                clear c144
                                obtain ⟨y256, hy256⟩ : ∃ y_ : List Int, y_ = (y249 ++ y252) := ⟨_, rfl⟩
                                replace H : (if t237 = 0 then (if t244 = 0 then (if t243 = (wrap64 ((wrap64 (t199 + t227)) + 2)) then (if t239 ≥ 0 then (if t239 < (t234.length : Int) then (if 0 ≤ t239 then (if ((rd_T33 t234 t239).f0) = 2 then ((standstillref06_SameCount.f kj124 0 y256 0 t240).bind fun t260 => (if t260 = true then ((standstilllaw06_awake.f kj124).bind fun t261 => (some t261)) else (none))) else (none)) else (none)) else (none)) else (none)) else (none)) else (none)) else (none)) = some r := by first | (rw [hy256]; with_reducible exact H) | (have H2_ := (Option.bind_some _ _).symm.trans H; rw [hy256]; with_reducible exact H2_) | (have H2_ := (Option.bind_some _ _).symm.trans H; with_reducible exact H2_) | with_reducible exact H | (rw [hy256]; exact H) | exact H
                                have Ny256 := Aside0.mk hy256
                                clear hy256
                                by_cases c145 : t237 = 0
                                ·rw [if_pos c145] at H
                                 have c145b0 : (t237 == 0) = true := beq_iff_eq.mpr c145
                                 have c145b1 : (t237 != 0) = false := bne_eq_false_iff_eq.mpr c145
                                 clear c145
                                 by_cases c146 : t244 = 0
                                 ·rw [if_pos c146] at H
                                  have c146b0 : (t244 == 0) = true := beq_iff_eq.mpr c146
                                  have c146b1 : (t244 != 0) = false := bne_eq_false_iff_eq.mpr c146
                                  clear c146
                                  by_cases c147 : t243 = (wrap64 ((wrap64 (t199 + t227)) + 2))
                                  ·rw [if_pos c147] at H
                                   have c147b0 : (t243 == (wrap64 ((wrap64 (t199 + t227)) + 2))) = true := beq_iff_eq.mpr c147
                                   have c147b1 : (t243 != (wrap64 ((wrap64 (t199 + t227)) + 2))) = false := bne_eq_false_iff_eq.mpr c147
                                   clear c147
                                   by_cases c148 : t239 ≥ 0
                                   ·rw [if_pos c148] at H
                                    have c148b0 : decide (0 ≤ t239) = true := decide_eq_true c148
                                    clear c148
                                    by_cases c149 : t239 < (t234.length : Int)
                                    ·rw [if_pos c149] at H
                                     have c149b0 : decide (t239 < (t234.length : Int)) = true := decide_eq_true c149
                                     clear c149
                                     by_cases c150 : 0 ≤ t239
                                     ·rw [if_pos c150] at H
                                      have c150b0 : decide (0 ≤ t239) = true := decide_eq_true c150
                                      clear c150
                                      by_cases c151 : ((rd_T33 t234 t239).f0) = 2
                                      ·rw [if_pos c151] at H
                                       have c151b0 : (((rd_T33 t234 t239).f0) == 2) = true := beq_iff_eq.mpr c151
                                       have c151b1 : (((rd_T33 t234 t239).f0) != 2) = false := bne_eq_false_iff_eq.mpr c151
                                       clear c151
                                       replace H := Option.bind_eq_some_iff.mp H
                                       obtain ⟨t260, A1520, H⟩ := H
                                       replace H : (if t260 = true then ((standstilllaw06_awake.f kj124).bind fun t261 => (some t261)) else (none)) = some r := H
                                       have A152 := Aside0.mk A1520
                                       clear A1520
                                       by_cases c153 : t260 = true
                                       ·subst c153
                                        have H1 : ((standstilllaw06_awake.f kj124).bind fun t261 => (some t261)) = some r := by rw [if_pos rfl] at H; exact H
                                        clear H
                                        have H := H1
                                        clear H1
                                        replace H := Option.bind_eq_some_iff.mp H
                                        obtain ⟨t261, A1540, H⟩ := H
                                        replace H : (some t261) = some r := H
                                        have A154 := Aside0.mk A1540
                                        clear A1540
                                        obtain rfl := Option.some.inj H
                                        have hnb155 := NB181_182.out
                                        have hnc155 := NB182_181.out
                                        have hnb156 := NB181_201.out
                                        have hnc156 := NB201_181.out
                                        have hnb157 := NB181_229.out
                                        have hnc157 := NB229_181.out
                                        have hcz158_0 : wc.cell? ⟨gb181, 0, none⟩ = some (.int .i64 a0_0) := (blk_cell BK181.out 0).trans rfl
                                        have hcz158_1 : wc.cell? ⟨gb181, 1, none⟩ = some (.slice A0_1 l0_1.length c0_1) := (blk_cell BK181.out 1).trans rfl
                                        have hfz158_0 := blk_frozen BK181.out 0
                                        have hfz158_1 := blk_frozen BK181.out 1
                                        have hnb159 := NB182_201.out
                                        have hnc159 := NB201_182.out
                                        have hnb160 := NB182_229.out
                                        have hnc160 := NB229_182.out
                                        have hcz161_0 : wc.cell? ⟨gb182, 0, none⟩ = some (.int .i64 a1_0) := (blk_cell BK182.out 0).trans rfl
                                        have hcz161_1 : wc.cell? ⟨gb182, 1, none⟩ = some (.slice A1_1 l1_1.length c1_1) := (blk_cell BK182.out 1).trans rfl
                                        have hfz161_0 := blk_frozen BK182.out 0
                                        have hfz161_1 := blk_frozen BK182.out 1
                                        try go_wp2_with (first | ((with_reducible refine gate_callee (f := 12) rfl ?_); refine goesL_ (some 157) rfl rfl Try.func12 (by kernel_rfl) rfl #[.agg #[.int .i64 a0_0, .slice A0_1 l0_1.length c0_1], .agg #[.int .i64 a1_0, .slice A1_1 l1_1.length c1_1]] rfl gl_ ?_; (with_reducible refine (counter_Join.calls kj124 a0_0 _ _ l0_1 a1_0 _ _ l1_1 t233 t234 t237 _ ?side1 ?side2 ?side3 ?side4 A139.out).mono ?_); (case side1 => exact ck_ (Kd.C_below HR0_1.out HB.out)); (case side2 => exact HC0_1.out); (case side3 => exact ck_ (Kd.C_below HR1_1.out HB.out)); (case side4 => exact HC1_1.out); rintro e w162 ⟨v235, rfl, ho0, hb⟩; refine ⟨_, rfl, ?_⟩; have n0_ := A_ (Kd.R_below (rk_ HO_8.out) hb); have n1_ := A_ (Kd.R_below (rk_ HO_13.out) hb); have n2_ := A_ (Kd.R_below (rk_ HO_202001.out) hb); have n3_ := A_ (Kd.R_below (rk_ HO_230001.out) hb); have n4_ := A_ (Kd.R_lower ho0 (below_size (bk_ HB.out))); have n5_ := A_ (blk_below (pk_ BK181.out) hb); have n6_ := A_ (blk_below (pk_ BK182.out) hb); have n7_ := A_ (blk_below (pk_ BK201.out) hb); have n8_ := A_ (blk_below (pk_ BK229.out) hb); have n9_ := A_ (below_step (bk_ HB.out) hb); clear HO_8 HO_13 HO_202001 HO_230001 BK181 BK182 BK201 BK229 HB; have HO_8 := n0_; have HO_13 := n1_; have HO_202001 := n2_; have HO_230001 := n3_; have HO236 := n4_; have BK181 := n5_; have BK182 := n6_; have BK201 := n7_; have BK229 := n8_; have HB := n9_; clear n0_ n1_ n2_ n3_ n4_ n5_ n6_ n7_ n8_ n9_; (try clear hb); (try clear hb2); (try clear hk); (try clear hi); (try clear ho0)) | ((with_reducible refine gate_dst (N := 17) rfl ?_); (try (refine gate_guard (by rfl) ?_; dsimp only)); refine box_event ?hg (N := 17) ?hd (cs := #[.int .i64 0, .slice none 0 0]) (t := 24) ?hr ?_; (case hd => rfl); (case hg => rfl); (case hr => first | (go_simp; done) | (go_simp; rfl)); intro gb238 hg w163 hbox hb; have n0_ := A_ (Kd.R_below (rk_ HO_8.out) hb); have n1_ := A_ (Kd.R_below (rk_ HO_13.out) hb); have n2_ := A_ (Kd.R_below (rk_ HO_202001.out) hb); have n3_ := A_ (Kd.R_below (rk_ HO_230001.out) hb); have n4_ := A_ (Kd.R_below (rk_ HO236.out) hb); have n5_ := A_ (blk_below (pk_ BK181.out) hb); have n6_ := A_ (blk_below (pk_ BK182.out) hb); have n7_ := A_ (blk_below (pk_ BK201.out) hb); have n8_ := A_ (blk_below (pk_ BK229.out) hb); have n9_ := A_ (below_step (bk_ HB.out) hb); have n10_ := A_ (hbox); have n11_ := A_ ((by rw [hg]; exact (below_size (bk_ HB.out)) : w.heap.size ≤ gb238)); have n12_ := A_ ((by rw [hg]; exact (below_size (bk_ HB.out)) : w.heap.size ≤ gb238)); have n13_ := A_ ((by rw [hg]; exact Nat.ne_of_lt (blk_lt (pk_ BK181.out)) : gb181 ≠ gb238)); have n14_ := A_ ((by rw [hg]; exact Nat.ne_of_gt (blk_lt (pk_ BK181.out)) : gb238 ≠ gb181)); have n15_ := A_ ((by rw [hg]; exact Nat.ne_of_lt (blk_lt (pk_ BK182.out)) : gb182 ≠ gb238)); have n16_ := A_ ((by rw [hg]; exact Nat.ne_of_gt (blk_lt (pk_ BK182.out)) : gb238 ≠ gb182)); have n17_ := A_ ((by rw [hg]; exact Nat.ne_of_lt (blk_lt (pk_ BK201.out)) : gb201 ≠ gb238)); have n18_ := A_ ((by rw [hg]; exact Nat.ne_of_gt (blk_lt (pk_ BK201.out)) : gb238 ≠ gb201)); have n19_ := A_ ((by rw [hg]; exact Nat.ne_of_lt (blk_lt (pk_ BK229.out)) : gb229 ≠ gb238)); have n20_ := A_ ((by rw [hg]; exact Nat.ne_of_gt (blk_lt (pk_ BK229.out)) : gb238 ≠ gb229)); clear HO_8 HO_13 HO_202001 HO_230001 HO236 BK181 BK182 BK201 BK229 HB; have HO_8 := n0_; have HO_13 := n1_; have HO_202001 := n2_; have HO_230001 := n3_; have HO236 := n4_; have BK181 := n5_; have BK182 := n6_; have BK201 := n7_; have BK229 := n8_; have HB := n9_; have BK238 := n10_; have GW238 := n11_; have GE238 := n12_; have NB181_238 := n13_; have NB238_181 := n14_; have NB182_238 := n15_; have NB238_182 := n16_; have NB201_238 := n17_; have NB238_201 := n18_; have NB229_238 := n19_; have NB238_229 := n20_; clear n0_ n1_ n2_ n3_ n4_ n5_ n6_ n7_ n8_ n9_ n10_ n11_ n12_ n13_ n14_ n15_ n16_ n17_ n18_ n19_ n20_ hb hbox hg; have hnb164 := NB238_181.out; have hnc164 := NB181_238.out; have hnb165 := NB238_182.out; have hnc165 := NB182_238.out; have hnb166 := NB238_201.out; have hnc166 := NB201_238.out; have hnb167 := NB238_229.out; have hnc167 := NB229_238.out; have hcz168_0 : w163.cell? ⟨gb238, 0, none⟩ = some (.int .i64 0) := (blk_cell BK238.out 0).trans rfl; have hcz168_1 : w163.cell? ⟨gb238, 1, none⟩ = some (.slice none 0 0) := (blk_cell BK238.out 1).trans rfl; have hfz168_0 := blk_frozen BK238.out 0; have hfz168_1 := blk_frozen BK238.out 1; obtain ⟨Ao169, co169, eo169⟩ := Kd.R_slice HO236.out; subst eo169) | ((with_reducible refine gate_callee (f := 11) rfl ?_); refine goesL_ (some 164) rfl rfl Try.func11 (by kernel_rfl) rfl #[.agg #[.int .i64 t233, .slice Ao169 t234.length co169], .agg #[.int .i64 0, .slice Ao56 x8_36.length co56], .int .i64 10000] rfl gl_ ?_; (with_reducible refine (counter_Run.calls kj124 t233 _ _ t234 0 _ _ x8_36 10000 t239 t240 t243 t244 _ ?side1 ?side2 ?side3 ?side4 A140.out).mono ?_); (case side1 => refine (Kd.R_reads' (e := 33) (base := w.heap.size) (ok := fun k_ => True) (n := t234.length) (c := co169) ?_).2.2; exact (by (with_reducible repeat (first | apply Kd.R_alloc | apply Kd.R_drewN | apply Kd.R_drew)); exact (Kd.R_mono (Kd.R_far (p := ⟨gb238, 1, none⟩) (Kd.R_far (p := ⟨gb238, 0, none⟩) (Kd.R_types HO236.out BK238.out (by decide)) (fun _ hk => hk.2) (.int .i64 t233)) (fun _ hk => hk.2) (.slice Ao169 t234.length co169)) (fun _ h_ => h_.1)))); (case side2 => exact (Kd.R_reads' HO236.out).2.1); (case side3 => refine (Kd.R_reads' (e := 3) (base := w.heap.size) (ok := fun k_ => (some k_ ≠ (.slice Ao107 y216.length co107 : Value).ownBlock ∧ (some k_ ≠ (.slice Ao61 t196.length co61 : Value).ownBlock ∧ some k_ ≠ (.slice Ao112 t224.length co112 : Value).ownBlock))) (n := x8_36.length) (c := co56) ?_).2.2; exact (by (with_reducible repeat (first | apply Kd.R_alloc | apply Kd.R_drewN | apply Kd.R_drew)); exact (Kd.R_mono (Kd.R_far (p := ⟨gb238, 1, none⟩) (Kd.R_far (p := ⟨gb238, 0, none⟩) (Kd.R_types HO_8.out BK238.out (by decide)) (fun _ hk => hk.2) (.int .i64 t233)) (fun _ hk => hk.2) (.slice Ao169 t234.length co169)) (fun _ h_ => h_.1)))); (case side4 => exact (Kd.R_reads' HO_8.out).2.1); rintro e w170 ⟨v241, rfl, ho0, hb⟩; refine ⟨_, rfl, ?_⟩; have n0_ := A_ (Kd.R_elder' (by (with_reducible repeat (first | apply Kd.R_alloc | apply Kd.R_drewN | apply Kd.R_drew)); exact (Kd.R_mono (Kd.R_far (p := ⟨gb238, 1, none⟩) (Kd.R_far (p := ⟨gb238, 0, none⟩) (Kd.R_types HO_8.out BK238.out (by decide)) (fun _ hk => hk.2) (.int .i64 t233)) (fun _ hk => hk.2) (.slice Ao169 t234.length co169)) (fun _ h_ => h_.1))) (Kd.R_base ho0) hb); have n1_ := A_ (Kd.R_elder' (by (with_reducible repeat (first | apply Kd.R_alloc | apply Kd.R_drewN | apply Kd.R_drew)); exact (Kd.R_mono (Kd.R_far (p := ⟨gb238, 1, none⟩) (Kd.R_far (p := ⟨gb238, 0, none⟩) (Kd.R_types HO_13.out BK238.out (by decide)) (fun _ hk => hk.2) (.int .i64 t233)) (fun _ hk => hk.2) (.slice Ao169 t234.length co169)) (fun _ h_ => h_.1))) (Kd.R_base ho0) hb); have n2_ := A_ (Kd.R_elder' (by (with_reducible repeat (first | apply Kd.R_alloc | apply Kd.R_drewN | apply Kd.R_drew)); exact (Kd.R_mono (Kd.R_far (p := ⟨gb238, 1, none⟩) (Kd.R_far (p := ⟨gb238, 0, none⟩) (Kd.R_types HO_202001.out BK238.out (by decide)) (fun _ hk => hk.2) (.int .i64 t233)) (fun _ hk => hk.2) (.slice Ao169 t234.length co169)) (fun _ h_ => h_.1))) (Kd.R_base ho0) hb); have n3_ := A_ (Kd.R_elder' (by (with_reducible repeat (first | apply Kd.R_alloc | apply Kd.R_drewN | apply Kd.R_drew)); exact (Kd.R_mono (Kd.R_far (p := ⟨gb238, 1, none⟩) (Kd.R_far (p := ⟨gb238, 0, none⟩) (Kd.R_types HO_230001.out BK238.out (by decide)) (fun _ hk => hk.2) (.int .i64 t233)) (fun _ hk => hk.2) (.slice Ao169 t234.length co169)) (fun _ h_ => h_.1))) (Kd.R_base ho0) hb); have n4_ := A_ (Kd.R_below (by (with_reducible repeat (first | apply Kd.R_alloc | apply Kd.R_drewN | apply Kd.R_drew)); exact (Kd.R_mono (Kd.R_far (p := ⟨gb238, 1, none⟩) (Kd.R_far (p := ⟨gb238, 0, none⟩) (Kd.R_types HO236.out BK238.out (by decide)) (fun _ hk => hk.2) (.int .i64 t233)) (fun _ hk => hk.2) (.slice Ao169 t234.length co169)) (fun _ h_ => h_.1))) hb); have n5_ := A_ (Kd.R_lower (Kd.R_new' (Kd.R_new' (Kd.R_new' (Kd.R_new' ho0 (Kd.R_lt (by (with_reducible repeat (first | apply Kd.R_alloc | apply Kd.R_drewN | apply Kd.R_drew)); exact (Kd.R_mono (Kd.R_far (p := ⟨gb238, 1, none⟩) (Kd.R_far (p := ⟨gb238, 0, none⟩) (Kd.R_types HO_8.out BK238.out (by decide)) (fun _ hk => hk.2) (.int .i64 t233)) (fun _ hk => hk.2) (.slice Ao169 t234.length co169)) (fun _ h_ => h_.1))))) (Kd.R_lt (by (with_reducible repeat (first | apply Kd.R_alloc | apply Kd.R_drewN | apply Kd.R_drew)); exact (Kd.R_mono (Kd.R_far (p := ⟨gb238, 1, none⟩) (Kd.R_far (p := ⟨gb238, 0, none⟩) (Kd.R_types HO_13.out BK238.out (by decide)) (fun _ hk => hk.2) (.int .i64 t233)) (fun _ hk => hk.2) (.slice Ao169 t234.length co169)) (fun _ h_ => h_.1))))) (Kd.R_lt (by (with_reducible repeat (first | apply Kd.R_alloc | apply Kd.R_drewN | apply Kd.R_drew)); exact (Kd.R_mono (Kd.R_far (p := ⟨gb238, 1, none⟩) (Kd.R_far (p := ⟨gb238, 0, none⟩) (Kd.R_types HO_202001.out BK238.out (by decide)) (fun _ hk => hk.2) (.int .i64 t233)) (fun _ hk => hk.2) (.slice Ao169 t234.length co169)) (fun _ h_ => h_.1))))) (Kd.R_lt (by (with_reducible repeat (first | apply Kd.R_alloc | apply Kd.R_drewN | apply Kd.R_drew)); exact (Kd.R_mono (Kd.R_far (p := ⟨gb238, 1, none⟩) (Kd.R_far (p := ⟨gb238, 0, none⟩) (Kd.R_types HO_230001.out BK238.out (by decide)) (fun _ hk => hk.2) (.int .i64 t233)) (fun _ hk => hk.2) (.slice Ao169 t234.length co169)) (fun _ h_ => h_.1))))) (below_size (bk_ HB.out))); have n6_ := A_ (blk_below (g := gb181) (o := .cells #[.int .i64 a0_0, .slice A0_1 l0_1.length c0_1] 24 (0, 0)) (by refine pk_ ?_; refine blk_far ?_ NB181_238.out _; refine pk_ ?_; refine blk_far ?_ NB181_238.out _; exact pk_ BK181.out) hb); have n7_ := A_ (blk_below (g := gb182) (o := .cells #[.int .i64 a1_0, .slice A1_1 l1_1.length c1_1] 24 (0, 0)) (by refine pk_ ?_; refine blk_far ?_ NB182_238.out _; refine pk_ ?_; refine blk_far ?_ NB182_238.out _; exact pk_ BK182.out) hb); have n8_ := A_ (blk_below (g := gb201) (o := .cells #[.int .i64 t195, .slice Ao61 t196.length co61] 27 (0, 0)) (by refine pk_ ?_; refine blk_far ?_ NB201_238.out _; refine pk_ ?_; refine blk_far ?_ NB201_238.out _; exact pk_ BK201.out) hb); have n9_ := A_ (blk_below (g := gb229) (o := .cells #[.int .i64 t223, .slice Ao112 t224.length co112] 27 (0, 0)) (by refine pk_ ?_; refine blk_far ?_ NB229_238.out _; refine pk_ ?_; refine blk_far ?_ NB229_238.out _; exact pk_ BK229.out) hb); have n10_ := A_ (blk_below (g := gb238) (o := .cells #[.int .i64 t233, .slice Ao169 t234.length co169] 24 (0, 0)) (by refine pk_ ?_; refine blk_put (cs := #[.int .i64 t233, .slice none 0 0]) ?_ 1 _ rfl; refine pk_ ?_; refine blk_put (cs := #[.int .i64 0, .slice none 0 0]) ?_ 0 _ rfl; exact pk_ BK238.out) hb); have n11_ := A_ (below_step (bk_ HB.out) hb); clear HO_8 HO_13 HO_202001 HO_230001 HO236 BK181 BK182 BK201 BK229 BK238 HB; have HO_8 := n0_; have HO_13 := n1_; have HO_202001 := n2_; have HO_230001 := n3_; have HO236 := n4_; have HO242 := n5_; have BK181 := n6_; have BK182 := n7_; have BK201 := n8_; have BK229 := n9_; have BK238 := n10_; have HB := n11_; clear n0_ n1_ n2_ n3_ n4_ n5_ n6_ n7_ n8_ n9_ n10_ n11_; (try clear hb); (try clear hb2); (try clear hk); (try clear hi); (try clear ho0)) | ((with_reducible refine gate_dst (N := 19) rfl ?_); (try (refine gate_guard (by rfl) ?_; dsimp only)); refine box_event ?hg (N := 19) ?hd (cs := #[.int .i64 0, .slice none 0 0]) (t := 27) ?hr ?_; (case hd => rfl); (case hg => rfl); (case hr => first | (go_simp; done) | (go_simp; rfl)); intro gb245 hg w171 hbox hb; have n0_ := A_ (Kd.R_below (rk_ HO_8.out) hb); have n1_ := A_ (Kd.R_below (rk_ HO_13.out) hb); have n2_ := A_ (Kd.R_below (rk_ HO_202001.out) hb); have n3_ := A_ (Kd.R_below (rk_ HO_230001.out) hb); have n4_ := A_ (Kd.R_below (rk_ HO236.out) hb); have n5_ := A_ (Kd.R_below (rk_ HO242.out) hb); have n6_ := A_ (blk_below (pk_ BK181.out) hb); have n7_ := A_ (blk_below (pk_ BK182.out) hb); have n8_ := A_ (blk_below (pk_ BK201.out) hb); have n9_ := A_ (blk_below (pk_ BK229.out) hb); have n10_ := A_ (blk_below (pk_ BK238.out) hb); have n11_ := A_ (below_step (bk_ HB.out) hb); have n12_ := A_ (hbox); have n13_ := A_ ((by rw [hg]; exact (below_size (bk_ HB.out)) : w.heap.size ≤ gb245)); have n14_ := A_ ((by rw [hg]; exact (below_size (bk_ HB.out)) : w.heap.size ≤ gb245)); have n15_ := A_ ((by rw [hg]; exact Nat.ne_of_lt (blk_lt (pk_ BK181.out)) : gb181 ≠ gb245)); have n16_ := A_ ((by rw [hg]; exact Nat.ne_of_gt (blk_lt (pk_ BK181.out)) : gb245 ≠ gb181)); have n17_ := A_ ((by rw [hg]; exact Nat.ne_of_lt (blk_lt (pk_ BK182.out)) : gb182 ≠ gb245)); have n18_ := A_ ((by rw [hg]; exact Nat.ne_of_gt (blk_lt (pk_ BK182.out)) : gb245 ≠ gb182)); have n19_ := A_ ((by rw [hg]; exact Nat.ne_of_lt (blk_lt (pk_ BK201.out)) : gb201 ≠ gb245)); have n20_ := A_ ((by rw [hg]; exact Nat.ne_of_gt (blk_lt (pk_ BK201.out)) : gb245 ≠ gb201)); have n21_ := A_ ((by rw [hg]; exact Nat.ne_of_lt (blk_lt (pk_ BK229.out)) : gb229 ≠ gb245)); have n22_ := A_ ((by rw [hg]; exact Nat.ne_of_gt (blk_lt (pk_ BK229.out)) : gb245 ≠ gb229)); have n23_ := A_ ((by rw [hg]; exact Nat.ne_of_lt (blk_lt (pk_ BK238.out)) : gb238 ≠ gb245)); have n24_ := A_ ((by rw [hg]; exact Nat.ne_of_gt (blk_lt (pk_ BK238.out)) : gb245 ≠ gb238)); clear HO_8 HO_13 HO_202001 HO_230001 HO236 HO242 BK181 BK182 BK201 BK229 BK238 HB; have HO_8 := n0_; have HO_13 := n1_; have HO_202001 := n2_; have HO_230001 := n3_; have HO236 := n4_; have HO242 := n5_; have BK181 := n6_; have BK182 := n7_; have BK201 := n8_; have BK229 := n9_; have BK238 := n10_; have HB := n11_; have BK245 := n12_; have GW245 := n13_; have GE245 := n14_; have NB181_245 := n15_; have NB245_181 := n16_; have NB182_245 := n17_; have NB245_182 := n18_; have NB201_245 := n19_; have NB245_201 := n20_; have NB229_245 := n21_; have NB245_229 := n22_; have NB238_245 := n23_; have NB245_238 := n24_; clear n0_ n1_ n2_ n3_ n4_ n5_ n6_ n7_ n8_ n9_ n10_ n11_ n12_ n13_ n14_ n15_ n16_ n17_ n18_ n19_ n20_ n21_ n22_ n23_ n24_ hb hbox hg; have hnb172 := NB245_181.out; have hnc172 := NB181_245.out; have hnb173 := NB245_182.out; have hnc173 := NB182_245.out; have hnb174 := NB245_201.out; have hnc174 := NB201_245.out; have hnb175 := NB245_229.out; have hnc175 := NB229_245.out; have hnb176 := NB245_238.out; have hnc176 := NB238_245.out; have hcz177_0 : w171.cell? ⟨gb245, 0, none⟩ = some (.int .i64 0) := (blk_cell BK245.out 0).trans rfl; have hcz177_1 : w171.cell? ⟨gb245, 1, none⟩ = some (.slice none 0 0) := (blk_cell BK245.out 1).trans rfl; have hfz177_0 := blk_frozen BK245.out 0; have hfz177_1 := blk_frozen BK245.out 1; obtain ⟨Ao178, co178, eo178⟩ := Kd.R_slice HO242.out; subst eo178))
                                        have n0_ : Aside0 (Kd.R (Kd.int .i64) 3 ((w171.setCell ⟨gb245, 0, none⟩ (.int .i64 t239)).setCell ⟨gb245, 1, none⟩ (.slice Ao178 t240.length co178)) w.heap.size (fun k_ => some k_ ≠ (.slice Ao107 y216.length co107 : Value).ownBlock ∧ some k_ ≠ (.slice Ao61 t196.length co61 : Value).ownBlock ∧ some k_ ≠ (.slice Ao112 t224.length co112 : Value).ownBlock ∧ some k_ ≠ (.slice Ao178 t240.length co178 : Value).ownBlock) (.slice Ao56 x8_36.length co56) x8_36) := ⟨by (with_reducible repeat (first | apply Kd.R_alloc | apply Kd.R_drewN | apply Kd.R_drew)); exact Kd.R_mono (Kd.R_far (p := ⟨gb245, 1, none⟩) (Kd.R_far (p := ⟨gb245, 0, none⟩) (Kd.R_types HO_8.out BK245.out (by decide)) (fun _ hk => hk.2) (.int .i64 t239)) (fun _ hk => hk.2) (.slice Ao178 t240.length co178)) (fun _ hk => ⟨hk.1.1.1, ⟨hk.1.1.2.1, ⟨hk.1.1.2.2, hk.1.2⟩⟩⟩)⟩
                                        have n1_ : Aside0 (Kd.R (Kd.int .i64) 3 ((w171.setCell ⟨gb245, 0, none⟩ (.int .i64 t239)).setCell ⟨gb245, 1, none⟩ (.slice Ao178 t240.length co178)) w.heap.size (fun k_ => some k_ ≠ (.slice Ao56 x8_36.length co56 : Value).ownBlock ∧ some k_ ≠ (.slice Ao61 t196.length co61 : Value).ownBlock ∧ some k_ ≠ (.slice Ao112 t224.length co112 : Value).ownBlock ∧ some k_ ≠ (.slice Ao178 t240.length co178 : Value).ownBlock) (.slice Ao107 y216.length co107) y216) := ⟨by (with_reducible repeat (first | apply Kd.R_alloc | apply Kd.R_drewN | apply Kd.R_drew)); exact Kd.R_mono (Kd.R_far (p := ⟨gb245, 1, none⟩) (Kd.R_far (p := ⟨gb245, 0, none⟩) (Kd.R_types HO_13.out BK245.out (by decide)) (fun _ hk => hk.2) (.int .i64 t239)) (fun _ hk => hk.2) (.slice Ao178 t240.length co178)) (fun _ hk => ⟨hk.1.1.1, ⟨hk.1.1.2.1, ⟨hk.1.1.2.2, hk.1.2⟩⟩⟩)⟩
                                        have n2_ : Aside0 (Kd.R (Kd.int .i64) 3 ((w171.setCell ⟨gb245, 0, none⟩ (.int .i64 t239)).setCell ⟨gb245, 1, none⟩ (.slice Ao178 t240.length co178)) w.heap.size (fun k_ => some k_ ≠ (.slice Ao56 x8_36.length co56 : Value).ownBlock ∧ some k_ ≠ (.slice Ao107 y216.length co107 : Value).ownBlock ∧ some k_ ≠ (.slice Ao112 t224.length co112 : Value).ownBlock ∧ some k_ ≠ (.slice Ao178 t240.length co178 : Value).ownBlock) (.slice Ao61 t196.length co61) t196) := ⟨by (with_reducible repeat (first | apply Kd.R_alloc | apply Kd.R_drewN | apply Kd.R_drew)); exact Kd.R_mono (Kd.R_far (p := ⟨gb245, 1, none⟩) (Kd.R_far (p := ⟨gb245, 0, none⟩) (Kd.R_types HO_202001.out BK245.out (by decide)) (fun _ hk => hk.2) (.int .i64 t239)) (fun _ hk => hk.2) (.slice Ao178 t240.length co178)) (fun _ hk => ⟨hk.1.1.1, ⟨hk.1.1.2.1, ⟨hk.1.1.2.2, hk.1.2⟩⟩⟩)⟩
                                        have n3_ : Aside0 (Kd.R (Kd.int .i64) 3 ((w171.setCell ⟨gb245, 0, none⟩ (.int .i64 t239)).setCell ⟨gb245, 1, none⟩ (.slice Ao178 t240.length co178)) w.heap.size (fun k_ => some k_ ≠ (.slice Ao56 x8_36.length co56 : Value).ownBlock ∧ some k_ ≠ (.slice Ao107 y216.length co107 : Value).ownBlock ∧ some k_ ≠ (.slice Ao61 t196.length co61 : Value).ownBlock ∧ some k_ ≠ (.slice Ao178 t240.length co178 : Value).ownBlock) (.slice Ao112 t224.length co112) t224) := ⟨by (with_reducible repeat (first | apply Kd.R_alloc | apply Kd.R_drewN | apply Kd.R_drew)); exact Kd.R_mono (Kd.R_far (p := ⟨gb245, 1, none⟩) (Kd.R_far (p := ⟨gb245, 0, none⟩) (Kd.R_types HO_230001.out BK245.out (by decide)) (fun _ hk => hk.2) (.int .i64 t239)) (fun _ hk => hk.2) (.slice Ao178 t240.length co178)) (fun _ hk => ⟨hk.1.1.1, ⟨hk.1.1.2.1, ⟨hk.1.1.2.2, hk.1.2⟩⟩⟩)⟩
                                        have n4_ : Aside0 (Kd.R k33 33 ((w171.setCell ⟨gb245, 0, none⟩ (.int .i64 t239)).setCell ⟨gb245, 1, none⟩ (.slice Ao178 t240.length co178)) w.heap.size (fun _ => True) (.slice Ao169 t234.length co169) t234) := ⟨by (with_reducible repeat (first | apply Kd.R_alloc | apply Kd.R_drewN | apply Kd.R_drew)); exact Kd.R_mono (Kd.R_far (p := ⟨gb245, 1, none⟩) (Kd.R_far (p := ⟨gb245, 0, none⟩) (Kd.R_types HO236.out BK245.out (by decide)) (fun _ hk => hk.2) (.int .i64 t239)) (fun _ hk => hk.2) (.slice Ao178 t240.length co178)) (fun _ hk => trivial)⟩
                                        have n5_ : Aside0 (Kd.R (Kd.int .i64) 3 ((w171.setCell ⟨gb245, 0, none⟩ (.int .i64 t239)).setCell ⟨gb245, 1, none⟩ (.slice Ao178 t240.length co178)) w.heap.size (fun k_ => some k_ ≠ (.slice Ao56 x8_36.length co56 : Value).ownBlock ∧ some k_ ≠ (.slice Ao107 y216.length co107 : Value).ownBlock ∧ some k_ ≠ (.slice Ao61 t196.length co61 : Value).ownBlock ∧ some k_ ≠ (.slice Ao112 t224.length co112 : Value).ownBlock) (.slice Ao178 t240.length co178) t240) := ⟨by (with_reducible repeat (first | apply Kd.R_alloc | apply Kd.R_drewN | apply Kd.R_drew)); exact Kd.R_mono (Kd.R_far (p := ⟨gb245, 1, none⟩) (Kd.R_far (p := ⟨gb245, 0, none⟩) (Kd.R_types HO242.out BK245.out (by decide)) (fun _ hk => hk.2) (.int .i64 t239)) (fun _ hk => hk.2) (.slice Ao178 t240.length co178)) (fun _ hk => ⟨hk.1.1.1.1.2, ⟨hk.1.1.1.2, ⟨hk.1.1.2, hk.1.2⟩⟩⟩)⟩
                                        have n6_ : Aside0 (((w171.setCell ⟨gb245, 0, none⟩ (.int .i64 t239)).setCell ⟨gb245, 1, none⟩ (.slice Ao178 t240.length co178)).heap[gb181]? = some (.cells #[.int .i64 a0_0, .slice A0_1 l0_1.length c0_1] 24 (0, 0))) := ⟨by refine pk_ ?_; refine blk_far ?_ NB181_245.out _; refine pk_ ?_; refine blk_far ?_ NB181_245.out _; exact pk_ BK181.out⟩
                                        have n7_ : Aside0 (((w171.setCell ⟨gb245, 0, none⟩ (.int .i64 t239)).setCell ⟨gb245, 1, none⟩ (.slice Ao178 t240.length co178)).heap[gb182]? = some (.cells #[.int .i64 a1_0, .slice A1_1 l1_1.length c1_1] 24 (0, 0))) := ⟨by refine pk_ ?_; refine blk_far ?_ NB182_245.out _; refine pk_ ?_; refine blk_far ?_ NB182_245.out _; exact pk_ BK182.out⟩
                                        have n8_ : Aside0 (((w171.setCell ⟨gb245, 0, none⟩ (.int .i64 t239)).setCell ⟨gb245, 1, none⟩ (.slice Ao178 t240.length co178)).heap[gb201]? = some (.cells #[.int .i64 t195, .slice Ao61 t196.length co61] 27 (0, 0))) := ⟨by refine pk_ ?_; refine blk_far ?_ NB201_245.out _; refine pk_ ?_; refine blk_far ?_ NB201_245.out _; exact pk_ BK201.out⟩
                                        have n9_ : Aside0 (((w171.setCell ⟨gb245, 0, none⟩ (.int .i64 t239)).setCell ⟨gb245, 1, none⟩ (.slice Ao178 t240.length co178)).heap[gb229]? = some (.cells #[.int .i64 t223, .slice Ao112 t224.length co112] 27 (0, 0))) := ⟨by refine pk_ ?_; refine blk_far ?_ NB229_245.out _; refine pk_ ?_; refine blk_far ?_ NB229_245.out _; exact pk_ BK229.out⟩
                                        have n10_ : Aside0 (((w171.setCell ⟨gb245, 0, none⟩ (.int .i64 t239)).setCell ⟨gb245, 1, none⟩ (.slice Ao178 t240.length co178)).heap[gb238]? = some (.cells #[.int .i64 t233, .slice Ao169 t234.length co169] 24 (0, 0))) := ⟨by refine pk_ ?_; refine blk_far ?_ NB238_245.out _; refine pk_ ?_; refine blk_far ?_ NB238_245.out _; exact pk_ BK238.out⟩
                                        have n11_ : Aside0 (((w171.setCell ⟨gb245, 0, none⟩ (.int .i64 t239)).setCell ⟨gb245, 1, none⟩ (.slice Ao178 t240.length co178)).heap[gb245]? = some (.cells #[.int .i64 t239, .slice Ao178 t240.length co178] 27 (0, 0))) := ⟨by refine pk_ ?_; refine blk_put (cs := #[.int .i64 t239, .slice none 0 0]) ?_ 1 _ rfl; refine pk_ ?_; refine blk_put (cs := #[.int .i64 0, .slice none 0 0]) ?_ 0 _ rfl; exact pk_ BK245.out⟩
                                        have n12_ : Aside0 (Below w.heap.size w ((w171.setCell ⟨gb245, 0, none⟩ (.int .i64 t239)).setCell ⟨gb245, 1, none⟩ (.slice Ao178 t240.length co178))) := ⟨bk_ HB.out⟩
                                        (try clear HO_8)
                                        (try clear HO_13)
                                        (try clear HO_202001)
                                        (try clear HO_230001)
                                        (try clear HO236)
                                        (try clear HO242)
                                        (try clear BK181)
                                        (try clear BK182)
                                        (try clear BK201)
                                        (try clear BK229)
                                        (try clear BK238)
                                        (try clear BK245)
                                        (try clear HB)
                                        generalize ((w171.setCell ⟨gb245, 0, none⟩ (.int .i64 t239)).setCell ⟨gb245, 1, none⟩ (.slice Ao178 t240.length co178)) = w179 at n0_ n1_ n2_ n3_ n4_ n5_ n6_ n7_ n8_ n9_ n10_ n11_ n12_ ⊢
                                        have HO_8 := n0_
                                        have HO_13 := n1_
                                        have HO_202001 := n2_
                                        have HO_230001 := n3_
                                        have HO236 := n4_
                                        have HO242 := n5_
                                        have BK181 := n6_
                                        have BK182 := n7_
                                        have BK201 := n8_
                                        have BK229 := n9_
                                        have BK238 := n10_
                                        have BK245 := n11_
                                        have HB := n12_
                                        clear n0_ n1_ n2_ n3_ n4_ n5_ n6_ n7_ n8_ n9_ n10_ n11_ n12_
                                        have n0_ := A_ (Kd.R_drew HO_8.out)
                                        have n1_ := A_ (Kd.R_drew HO_13.out)
                                        have n2_ := A_ (Kd.R_drew HO_202001.out)
                                        have n3_ := A_ (Kd.R_drew HO_230001.out)
                                        have n4_ := A_ (Kd.R_drew HO236.out)
                                        have n5_ := A_ (Kd.R_drew HO242.out)
                                        have n6_ := A_ (blk_drew BK181.out)
                                        have n7_ := A_ (blk_drew BK182.out)
                                        have n8_ := A_ (blk_drew BK201.out)
                                        have n9_ := A_ (blk_drew BK229.out)
                                        have n10_ := A_ (blk_drew BK238.out)
                                        have n11_ := A_ (blk_drew BK245.out)
                                        have n12_ := A_ (below_drew1 HB.out)
                                        clear HO_8 HO_13 HO_202001 HO_230001 HO236 HO242 BK181 BK182 BK201 BK229 BK238 BK245 HB
                                        have HO_8 := n0_
                                        have HO_13 := n1_
                                        have HO_202001 := n2_
                                        have HO_230001 := n3_
                                        have HO236 := n4_
                                        have HO242 := n5_
                                        have BK181 := n6_
                                        have BK182 := n7_
                                        have BK201 := n8_
                                        have BK229 := n9_
                                        have BK238 := n10_
                                        have BK245 := n11_
                                        have HB := n12_
                                        clear n0_ n1_ n2_ n3_ n4_ n5_ n6_ n7_ n8_ n9_ n10_ n11_ n12_
                                        have q181 : (a1_0 : Int) ≤ ((y216.length : Int) : Int) := od_
                                        obtain ⟨i0181, hi0181, _, hsz181, _⟩ := info_parts info3
                                        have hroom181 : y216.length ≤ co107 := (Kd.R_reads' HO_13.out).2.1
                                        have hC181 : Kd.C (Kd.int .i64) _ Ao107 y216.length y216 := (Kd.R_reads' HO_13.out).2.2
                                        have q0181 : (0 : Int) ≤ (a1_0 : Int) := od_
                                        have hcut181 := cut_from (P := Try.prog) 25 3 .i64 Try.underlying25 hi0181 1 hsz181 Ao107 y216.length co107 a1_0 q0181 q181
                                        have hr181 := Kd.C_drop (m := (a1_0 : Int).toNat) (c := co107) hC181 (by omega) hroom181
                                        obtain ⟨A181, hA181⟩ : ∃ A1, A1 = (if co107 = (a1_0 : Int).toNat then Ao107 else (Ao107 : Option Addr).map (·.add ((a1_0 : Int).toNat * 1))) := ⟨_, rfl⟩
                                        obtain ⟨c181, hc181⟩ : ∃ c1, c1 = co107 - (a1_0 : Int).toNat := ⟨_, rfl⟩
                                        have hy181 : y252.length = y216.length - (a1_0 : Int).toNat := (by rw [Ny252.out, List.length_drop] <;> omega)
                                        rw [show (y216).drop (a1_0 : Int).toNat = y252 from Ny252.out.symm] at hr181
                                        replace hr181 : Kd.C (Kd.int .i64) _ A181 y252.length y252 := (by rw [hA181]; exact hr181)
                                        rw [← hy181, ← hA181, ← hc181] at hcut181
                                        have HR255 := Aside0.mk hr181
                                        have HC255 := A_ (show y252.length ≤ c181 from by rw [hy181, hc181]; exact Nat.sub_le_sub_right hroom181 _)
                                        clear hr181 hC181 hroom181 hi0181 hsz181 hc181
                                        have KY181 := Aside0.mk hy181
                                        have KA181 := Aside0.mk hA181
                                        clear hy181 hA181
                                        have KL181 := A_ (show (a1_0 : Int).toNat ≤ y216.length from by omega)
                                        replace q181 := eq_true q181
                                        refine start_ (n := 10) (S := fun w' => w'.cell? ⟨gb229, 0, none⟩ = some (.int .i64 t223) ∧ w'.cell? ⟨gb229, 1, none⟩ = some (.slice Ao112 t224.length co112) ∧ w'.cell? ⟨gb182, 0, none⟩ = some (.int .i64 a1_0) ∧ w'.cell? ⟨gb182, 1, none⟩ = some (.slice A1_1 l1_1.length c1_1)) (ds := []) #[false, false, false, false, false, false, false, false, false, false] (by kernel_rfl) rfl rfl ⟨(blk_cell BK229.out 0).trans rfl, (blk_cell BK229.out 1).trans rfl, (blk_cell BK182.out 0).trans rfl, (blk_cell BK182.out 1).trans rfl⟩ (fun hHeld => ?_); refine with_tabW standstilllaw06_CounterJoined.tab22 standstilllaw06_CounterJoined.bits22 (fun HT_ HW_ => ?_)
                                        generalize w179.drew = w180 at HO_8 HO_13 HO_202001 HO_230001 HO236 HO242 BK181 BK182 BK201 BK229 BK238 BK245 HB HR255 hHeld ⊢
                                        refine pure_ (i := 1) (N := some 169) (v := ?_) (a' := ?_) #[false, true, false, false, false, false, false, false, false, false] rfl rfl (any_of HT_.out (by kernel_rfl)) (fun _ _ _ h => h) (Or.inl ⟨by rfl, ?_⟩) ?_ ?_
                                        rotate_left
                                        ·intro w'
                                         go_simp
                                         with_reducible rfl
                                        rotate_left
                                        ·simp only [Act.put, sa_, sz_, ss_, i64_w, i32_w]
                                         rfl
                                        refine pure_ (i := 4) (N := some 172) (v := ?_) (a' := ?_) #[false, true, false, false, true, false, false, false, false, false] rfl rfl (any_of HT_.out (by kernel_rfl)) (fun _ _ _ h => h) (Or.inl ⟨by rfl, ?_⟩) ?_ ?_
                                        rotate_left
                                        ·intro w'
                                         go_simp
                                         with_reducible rfl
                                        rotate_left
                                        ·simp only [Act.put, sa_, sz_, ss_, i64_w, i32_w]
                                         rfl
                                        refine pure_ (i := 5) (N := some 173) (v := ?_) (a' := ?_) #[false, true, false, false, true, true, false, false, false, false] rfl rfl (any_of HT_.out (by kernel_rfl)) (fun _ _ _ h => h) (Or.inl ⟨by rfl, ?_⟩) ?_ ?_
                                        rotate_left
                                        ·intro w'
                                         go_simp
                                         with_reducible rfl
                                        rotate_left
                                        ·simp only [Act.put, sa_, sz_, ss_, i64_w, i32_w]
                                         rfl
                                        refine take_ (i := 2) (N := some 170) (v := ?_) (a' := ?_) #[false, true, true, false, true, true, false, false, false, false] rfl rfl (take_ofW HT_.out HW_.out (by kernel_rfl)) (fun _ _ _ h => h) (Or.inl ⟨by rfl, ?_⟩) hHeld ?_ ?_
                                        rotate_left
                                        ·rintro w' ⟨s0, s1, s2, s3⟩
                                         go_simp
                                         with_reducible rfl
                                        rotate_left
                                        ·simp only [Act.put, sa_, sz_, ss_, i64_w, i32_w]
                                         rfl
                                        refine take_ (i := 6) (N := some 174) (v := ?_) (a' := ?_) #[false, true, true, false, true, true, true, false, false, false] rfl rfl (take_ofW HT_.out HW_.out (by kernel_rfl)) (fun _ _ _ h => h) (Or.inl ⟨by rfl, ?_⟩) hHeld ?_ ?_
                                        rotate_left
                                        ·rintro w' ⟨s0, s1, s2, s3⟩
                                         go_simp
                                         with_reducible rfl
                                        rotate_left
                                        ·simp only [Act.put, sa_, sz_, ss_, i64_w, i32_w]
                                         rfl
                                        refine pure_ (i := 7) (N := some 175) (v := ?_) (a' := ?_) #[false, true, true, false, true, true, true, true, false, false] rfl rfl (any_of HT_.out (by kernel_rfl)) (fun _ _ _ h => h) (Or.inl ⟨by rfl, ?_⟩) ?_ ?_
                                        rotate_left
                                        ·intro w'
                                         go_simp
                                         with_reducible rfl
                                        rotate_left
                                        ·simp only [Act.put, sa_, sz_, ss_, i64_w, i32_w]
                                         rfl
                                        refine one_ (i := 0) (N := some 168) #[true, true, true, false, true, true, true, true, false, false] rfl rfl (one_of HT_.out (by kernel_rfl)) (by decide) (fun K hK => ?_)
                                        refine Kd.R_lit_step (Kd.int .i64) _ 3 ?hg (N := 168) ?hd (xs := ([] : List Int)) (inner := []) (ok := fun _ => True) (okp := fun _ => True) ?hr ?hp (fun _ hk => hk) trivial (Below.refl _ _) (Nat.le_refl _) (by simp) ?_; (case hd => rfl); (case hg => rfl); (case hr => first | (go_simp; done) | (go_simp; rfl)); (case hp => exact (Reps.none _ _))
                                        intro v247 w182 ho183 hb hg_ hnew_
                                        clear hg_ hnew_
                                        (first | rw [← Ny246.out] at ho183 | (simp only [Int.reduceToNat] at ho183; rw [← Ny246.out] at ho183))
                                        have n0_ := A_ (Kd.R_elder' (rk_ HO_8.out) (Kd.R_base ho183) hb)
                                        have n1_ := A_ (Kd.R_elder' (rk_ HO_13.out) (Kd.R_base ho183) hb)
                                        have n2_ := A_ (Kd.R_elder' (rk_ HO_202001.out) (Kd.R_base ho183) hb)
                                        have n3_ := A_ (Kd.R_elder' (rk_ HO_230001.out) (Kd.R_base ho183) hb)
                                        have n4_ := A_ (Kd.R_below (rk_ HO236.out) hb)
                                        have n5_ := A_ (Kd.R_elder' (rk_ HO242.out) (Kd.R_base ho183) hb)
                                        have n6_ := A_ (Kd.R_lower (Kd.R_new' (Kd.R_new' (Kd.R_new' (Kd.R_new' (Kd.R_new' ho183 (Kd.R_lt (rk_ HO_8.out))) (Kd.R_lt (rk_ HO_13.out))) (Kd.R_lt (rk_ HO_202001.out))) (Kd.R_lt (rk_ HO_230001.out))) (Kd.R_lt (rk_ HO242.out))) (below_size (bk_ HB.out)))
                                        have n7_ := A_ (blk_below (pk_ BK181.out) hb)
                                        have n8_ := A_ (blk_below (pk_ BK182.out) hb)
                                        have n9_ := A_ (blk_below (pk_ BK201.out) hb)
                                        have n10_ := A_ (blk_below (pk_ BK229.out) hb)
                                        have n11_ := A_ (blk_below (pk_ BK238.out) hb)
                                        have n12_ := A_ (blk_below (pk_ BK245.out) hb)
                                        have n13_ := A_ (Kd.C_below (by repeat (first | (with_reducible exact HR255.out) | (with_reducible refine Kd.C_alloc ?_ _) | (with_reducible refine Kd.C_drewN ?_ _) | (with_reducible refine Kd.C_drew ?_) | exact HR255.out)) hb)
                                        have n14_ := A_ (below_step (bk_ HB.out) hb)
                                        clear HO_8 HO_13 HO_202001 HO_230001 HO236 HO242 BK181 BK182 BK201 BK229 BK238 BK245 HR255 HB
                                        have HO_8 := n0_
                                        have HO_13 := n1_
                                        have HO_202001 := n2_
                                        have HO_230001 := n3_
                                        have HO236 := n4_
                                        have HO242 := n5_
                                        have HO248 := n6_
                                        have BK181 := n7_
                                        have BK182 := n8_
                                        have BK201 := n9_
                                        have BK229 := n10_
                                        have BK238 := n11_
                                        have BK245 := n12_
                                        have HR255 := n13_
                                        have HB := n14_
                                        clear n0_ n1_ n2_ n3_ n4_ n5_ n6_ n7_ n8_ n9_ n10_ n11_ n12_ n13_ n14_ hb ho183
                                        refine hK.out _ _ ⟨(blk_cell BK229.out 0).trans rfl, (blk_cell BK229.out 1).trans rfl, (blk_cell BK182.out 0).trans rfl, (blk_cell BK182.out 1).trans rfl⟩ (fun hHeld => ?_)
                                        clear hK K
                                        refine norm_ (a' := ?_) ?_ ?_
                                        rotate_left
                                        ·show Act.put _ (some 168) _ = _
                                         simp only [Act.put, sa_, sz_, ss_, i64_w, i32_w]
                                         rfl
                                        refine one_ (i := 3) (N := some 171) #[true, true, true, true, true, true, true, true, false, false] rfl rfl (one_of HT_.out (by kernel_rfl)) (by decide) (fun K hK => ?_)
                                        refine Kd.R_append_rows_step (Kd.int .i64) (w0 := w) w.heap.size (by rfl) (.tmp 168) (.tmp 170) 25 3 (.int .i64 0) 8 rfl Try.underlying25 info3 rfl (by decide) (by omega) v247 y246 t224 _ _ _ (fun k_ => some k_ ≠ (.slice Ao56 x8_36.length co56 : Value).ownBlock ∧ some k_ ≠ (.slice Ao107 y216.length co107 : Value).ownBlock ∧ some k_ ≠ (.slice Ao61 t196.length co61 : Value).ownBlock ∧ some k_ ≠ (.slice Ao112 t224.length co112 : Value).ownBlock ∧ some k_ ≠ (.slice Ao178 t240.length co178 : Value).ownBlock) (fun _ => False) rfl rfl ?aO ?aR (fun _ _ h => h) (fun _ h => h.elim) ?aF ?aB ?aS ?aL ?_
                                        (case aR => repeat (first | exact (Kd.R_reads' HO_230001.out).2.2 | (with_reducible refine Kd.C_alloc ?_ _) | (with_reducible refine Kd.C_drewN ?_ _) | (with_reducible refine Kd.C_drew ?_)))
                                        (case aB => exact (bk_ HB.out))
                                        (case aF => exact (fun k_ hk => ⟨Kd.fresh' (Kd.R_lt (rk_ HO_8.out)) k_ hk, Kd.fresh' (Kd.R_lt (rk_ HO_13.out)) k_ hk, Kd.fresh' (Kd.R_lt (rk_ HO_202001.out)) k_ hk, Kd.fresh' (Kd.R_lt (rk_ HO_230001.out)) k_ hk, Kd.fresh' (Kd.R_lt (rk_ HO242.out)) k_ hk⟩))
                                        (case aO => exact (by (with_reducible repeat (first | apply Kd.R_alloc | apply Kd.R_drewN | apply Kd.R_drew)); exact Kd.R_mono HO248.out (fun _ hk => ⟨hk.1.1.1.1.2, ⟨hk.1.1.1.2, ⟨hk.1.1.2, ⟨hk.1.2, hk.2⟩⟩⟩⟩)))
                                        (case aS => exact (below_size (bk_ HB.out)))
                                        (case aL => have := LMc141.out; omega)
                                        intro v250 w184 ho hb hg hat
                                        rw [← Ny249.out] at ho
                                        have n0_ := A_ (Kd.R_after (ok := (fun k_ => some k_ ≠ (.slice Ao107 y216.length co107 : Value).ownBlock ∧ some k_ ≠ (.slice Ao61 t196.length co61 : Value).ownBlock ∧ some k_ ≠ (.slice Ao112 t224.length co112 : Value).ownBlock ∧ some k_ ≠ (.slice Ao178 t240.length co178 : Value).ownBlock)) (rk_ HO_8.out) hg hat)
                                        have n1_ := A_ (Kd.R_after (ok := (fun k_ => some k_ ≠ (.slice Ao56 x8_36.length co56 : Value).ownBlock ∧ some k_ ≠ (.slice Ao61 t196.length co61 : Value).ownBlock ∧ some k_ ≠ (.slice Ao112 t224.length co112 : Value).ownBlock ∧ some k_ ≠ (.slice Ao178 t240.length co178 : Value).ownBlock)) (rk_ HO_13.out) hg hat)
                                        have n2_ := A_ (Kd.R_after (ok := (fun k_ => some k_ ≠ (.slice Ao56 x8_36.length co56 : Value).ownBlock ∧ some k_ ≠ (.slice Ao107 y216.length co107 : Value).ownBlock ∧ some k_ ≠ (.slice Ao112 t224.length co112 : Value).ownBlock ∧ some k_ ≠ (.slice Ao178 t240.length co178 : Value).ownBlock)) (rk_ HO_202001.out) hg hat)
                                        have n3_ := A_ (Kd.R_after (ok := (fun k_ => some k_ ≠ (.slice Ao56 x8_36.length co56 : Value).ownBlock ∧ some k_ ≠ (.slice Ao107 y216.length co107 : Value).ownBlock ∧ some k_ ≠ (.slice Ao61 t196.length co61 : Value).ownBlock ∧ some k_ ≠ (.slice Ao178 t240.length co178 : Value).ownBlock)) (rk_ HO_230001.out) hg hat)
                                        have n4_ := A_ (blk_grown (pk_ BK181.out) hg (Kd.R_ne HO248.out BK181.out (by decide)))
                                        have n5_ := A_ (blk_grown (pk_ BK182.out) hg (Kd.R_ne HO248.out BK182.out (by decide)))
                                        have n6_ := A_ (blk_grown (pk_ BK201.out) hg (Kd.R_ne HO248.out BK201.out (by decide)))
                                        have n7_ := A_ (blk_grown (pk_ BK229.out) hg (Kd.R_ne HO248.out BK229.out (by decide)))
                                        have n8_ := A_ (Kd.R_over' (rk_ HO236.out) (Kd.R_typed (rk_ HO248.out)) (by decide) hg)
                                        have n9_ := A_ (blk_grown (pk_ BK238.out) hg (Kd.R_ne HO248.out BK238.out (by decide)))
                                        have n10_ := A_ (Kd.R_after (ok := (fun k_ => some k_ ≠ (.slice Ao56 x8_36.length co56 : Value).ownBlock ∧ some k_ ≠ (.slice Ao107 y216.length co107 : Value).ownBlock ∧ some k_ ≠ (.slice Ao61 t196.length co61 : Value).ownBlock ∧ some k_ ≠ (.slice Ao112 t224.length co112 : Value).ownBlock)) (rk_ HO242.out) hg hat)
                                        have n11_ := A_ (blk_grown (pk_ BK245.out) hg (Kd.R_ne HO248.out BK245.out (by decide)))
                                        have n12_ := A_ (hb)
                                        have n13_ := A_ ((show Kd.C (Kd.int .i64) w184 A181 y252.length y252 from by rw [Ny252.out, KA181.out]; exact Kd.C_drop (m := (a1_0 : Int).toNat) (c := co107) ((Kd.R_reads' (Kd.R_after (ok := (fun k_ => some k_ ≠ (.slice Ao56 x8_36.length co56 : Value).ownBlock ∧ some k_ ≠ (.slice Ao61 t196.length co61 : Value).ownBlock ∧ some k_ ≠ (.slice Ao112 t224.length co112 : Value).ownBlock ∧ some k_ ≠ (.slice Ao178 t240.length co178 : Value).ownBlock)) (rk_ HO_13.out) hg hat)).2.2) KL181.out ((Kd.R_reads' (Kd.R_after (ok := (fun k_ => some k_ ≠ (.slice Ao56 x8_36.length co56 : Value).ownBlock ∧ some k_ ≠ (.slice Ao61 t196.length co61 : Value).ownBlock ∧ some k_ ≠ (.slice Ao112 t224.length co112 : Value).ownBlock ∧ some k_ ≠ (.slice Ao178 t240.length co178 : Value).ownBlock)) (rk_ HO_13.out) hg hat)).2.1)))
                                        have n14_ := A_ (ho)
                                        clear HO_8 HO_13 HO_202001 HO_230001 BK181 BK182 BK201 BK229 HO236 BK238 HO242 BK245 HB HR255 HO248
                                        have HO_8 := n0_
                                        have HO_13 := n1_
                                        have HO_202001 := n2_
                                        have HO_230001 := n3_
                                        have BK181 := n4_
                                        have BK182 := n5_
                                        have BK201 := n6_
                                        have BK229 := n7_
                                        have HO236 := n8_
                                        have BK238 := n9_
                                        have HO242 := n10_
                                        have BK245 := n11_
                                        have HB := n12_
                                        have HR255 := n13_
                                        have HO251 := n14_
                                        clear n0_ n1_ n2_ n3_ n4_ n5_ n6_ n7_ n8_ n9_ n10_ n11_ n12_ n13_ n14_ ho hb hg hat
                                        refine hK.out _ _ ⟨(blk_cell BK229.out 0).trans rfl, (blk_cell BK229.out 1).trans rfl, (blk_cell BK182.out 0).trans rfl, (blk_cell BK182.out 1).trans rfl⟩ (fun hHeld => ?_)
                                        clear hK K
                                        refine norm_ (a' := ?_) ?_ ?_
                                        rotate_left
                                        ·show Act.put _ (some 171) _ = _
                                         simp only [Act.put, sa_, sz_, ss_, i64_w, i32_w]
                                         rfl
                                        refine one_ (i := 8) (N := some 176) #[true, true, true, true, true, true, true, true, true, false] rfl rfl (one_of HT_.out (by kernel_rfl)) (by decide) (fun K hK => ?_)
                                        refine Kd.R_append_rows_step (Kd.int .i64) (w0 := w) w.heap.size (by rfl) (.tmp 171) (.tmp 175) 25 3 (.int .i64 0) 8 rfl Try.underlying25 info3 rfl (by decide) (by omega) v250 y249 y252 _ _ _ (fun k_ => some k_ ≠ (.slice Ao56 x8_36.length co56 : Value).ownBlock ∧ some k_ ≠ (.slice Ao107 y216.length co107 : Value).ownBlock ∧ some k_ ≠ (.slice Ao61 t196.length co61 : Value).ownBlock ∧ some k_ ≠ (.slice Ao112 t224.length co112 : Value).ownBlock ∧ some k_ ≠ (.slice Ao178 t240.length co178 : Value).ownBlock) (fun _ => False) rfl rfl ?aO ?aR (fun _ _ h => h) (fun _ h => h.elim) ?aF ?aB ?aS ?aL ?_
                                        (case aR => repeat (first | exact (by repeat (first | (with_reducible exact HR255.out) | (with_reducible refine Kd.C_alloc ?_ _) | (with_reducible refine Kd.C_drewN ?_ _) | (with_reducible refine Kd.C_drew ?_) | exact HR255.out)) | (with_reducible refine Kd.C_alloc ?_ _) | (with_reducible refine Kd.C_drewN ?_ _) | (with_reducible refine Kd.C_drew ?_)))
                                        (case aB => exact (bk_ HB.out))
                                        (case aF => exact (fun k_ hk => ⟨Kd.fresh' (Kd.R_lt (rk_ HO_8.out)) k_ hk, Kd.fresh' (Kd.R_lt (rk_ HO_13.out)) k_ hk, Kd.fresh' (Kd.R_lt (rk_ HO_202001.out)) k_ hk, Kd.fresh' (Kd.R_lt (rk_ HO_230001.out)) k_ hk, Kd.fresh' (Kd.R_lt (rk_ HO242.out)) k_ hk⟩))
                                        (case aO => exact (rk_ HO251.out))
                                        (case aS => exact (below_size (bk_ HB.out)))
                                        (case aL => have := LMc144.out; omega)
                                        intro v257 w185 ho hb hg hat
                                        rw [← Ny256.out] at ho
                                        have n0_ := A_ (Kd.R_after (ok := (fun k_ => some k_ ≠ (.slice Ao107 y216.length co107 : Value).ownBlock ∧ some k_ ≠ (.slice Ao61 t196.length co61 : Value).ownBlock ∧ some k_ ≠ (.slice Ao112 t224.length co112 : Value).ownBlock ∧ some k_ ≠ (.slice Ao178 t240.length co178 : Value).ownBlock)) (rk_ HO_8.out) hg hat)
                                        have n1_ := A_ (Kd.R_after (ok := (fun k_ => some k_ ≠ (.slice Ao56 x8_36.length co56 : Value).ownBlock ∧ some k_ ≠ (.slice Ao61 t196.length co61 : Value).ownBlock ∧ some k_ ≠ (.slice Ao112 t224.length co112 : Value).ownBlock ∧ some k_ ≠ (.slice Ao178 t240.length co178 : Value).ownBlock)) (rk_ HO_13.out) hg hat)
                                        have n2_ := A_ (Kd.R_after (ok := (fun k_ => some k_ ≠ (.slice Ao56 x8_36.length co56 : Value).ownBlock ∧ some k_ ≠ (.slice Ao107 y216.length co107 : Value).ownBlock ∧ some k_ ≠ (.slice Ao112 t224.length co112 : Value).ownBlock ∧ some k_ ≠ (.slice Ao178 t240.length co178 : Value).ownBlock)) (rk_ HO_202001.out) hg hat)
                                        have n3_ := A_ (Kd.R_after (ok := (fun k_ => some k_ ≠ (.slice Ao56 x8_36.length co56 : Value).ownBlock ∧ some k_ ≠ (.slice Ao107 y216.length co107 : Value).ownBlock ∧ some k_ ≠ (.slice Ao61 t196.length co61 : Value).ownBlock ∧ some k_ ≠ (.slice Ao178 t240.length co178 : Value).ownBlock)) (rk_ HO_230001.out) hg hat)
                                        have n4_ := A_ (blk_grown (pk_ BK181.out) hg (Kd.R_ne HO251.out BK181.out (by decide)))
                                        have n5_ := A_ (blk_grown (pk_ BK182.out) hg (Kd.R_ne HO251.out BK182.out (by decide)))
                                        have n6_ := A_ (blk_grown (pk_ BK201.out) hg (Kd.R_ne HO251.out BK201.out (by decide)))
                                        have n7_ := A_ (blk_grown (pk_ BK229.out) hg (Kd.R_ne HO251.out BK229.out (by decide)))
                                        have n8_ := A_ (Kd.R_over' (rk_ HO236.out) (Kd.R_typed (rk_ HO251.out)) (by decide) hg)
                                        have n9_ := A_ (blk_grown (pk_ BK238.out) hg (Kd.R_ne HO251.out BK238.out (by decide)))
                                        have n10_ := A_ (Kd.R_after (ok := (fun k_ => some k_ ≠ (.slice Ao56 x8_36.length co56 : Value).ownBlock ∧ some k_ ≠ (.slice Ao107 y216.length co107 : Value).ownBlock ∧ some k_ ≠ (.slice Ao61 t196.length co61 : Value).ownBlock ∧ some k_ ≠ (.slice Ao112 t224.length co112 : Value).ownBlock)) (rk_ HO242.out) hg hat)
                                        have n11_ := A_ (blk_grown (pk_ BK245.out) hg (Kd.R_ne HO251.out BK245.out (by decide)))
                                        have n12_ := A_ (hb)
                                        have n13_ := A_ ((show Kd.C (Kd.int .i64) w185 A181 y252.length y252 from by rw [Ny252.out, KA181.out]; exact Kd.C_drop (m := (a1_0 : Int).toNat) (c := co107) ((Kd.R_reads' (Kd.R_after (ok := (fun k_ => some k_ ≠ (.slice Ao56 x8_36.length co56 : Value).ownBlock ∧ some k_ ≠ (.slice Ao61 t196.length co61 : Value).ownBlock ∧ some k_ ≠ (.slice Ao112 t224.length co112 : Value).ownBlock ∧ some k_ ≠ (.slice Ao178 t240.length co178 : Value).ownBlock)) (rk_ HO_13.out) hg hat)).2.2) KL181.out ((Kd.R_reads' (Kd.R_after (ok := (fun k_ => some k_ ≠ (.slice Ao56 x8_36.length co56 : Value).ownBlock ∧ some k_ ≠ (.slice Ao61 t196.length co61 : Value).ownBlock ∧ some k_ ≠ (.slice Ao112 t224.length co112 : Value).ownBlock ∧ some k_ ≠ (.slice Ao178 t240.length co178 : Value).ownBlock)) (rk_ HO_13.out) hg hat)).2.1)))
                                        have n14_ := A_ (ho)
                                        clear HO_8 HO_13 HO_202001 HO_230001 BK181 BK182 BK201 BK229 HO236 BK238 HO242 BK245 HB HR255 HO251
                                        have HO_8 := n0_
                                        have HO_13 := n1_
                                        have HO_202001 := n2_
                                        have HO_230001 := n3_
                                        have BK181 := n4_
                                        have BK182 := n5_
                                        have BK201 := n6_
                                        have BK229 := n7_
                                        have HO236 := n8_
                                        have BK238 := n9_
                                        have HO242 := n10_
                                        have BK245 := n11_
                                        have HB := n12_
                                        have HR255 := n13_
                                        have HO258 := n14_
                                        clear n0_ n1_ n2_ n3_ n4_ n5_ n6_ n7_ n8_ n9_ n10_ n11_ n12_ n13_ n14_ ho hb hg hat
                                        refine hK.out _ _ ⟨(blk_cell BK229.out 0).trans rfl, (blk_cell BK229.out 1).trans rfl, (blk_cell BK182.out 0).trans rfl, (blk_cell BK182.out 1).trans rfl⟩ (fun hHeld => ?_)
                                        clear hK K
                                        refine norm_ (a' := ?_) ?_ ?_
                                        rotate_left
                                        ·show Act.put _ (some 176) _ = _
                                         simp only [Act.put, sa_, sz_, ss_, i64_w, i32_w]
                                         rfl
                                        refine pure_ (i := 9) (N := some 22) (v := ?_) (a' := ?_) #[true, true, true, true, true, true, true, true, true, true] rfl rfl (any_of HT_.out (by kernel_rfl)) (fun _ _ _ h => h) (Or.inl ⟨by rfl, ?_⟩) ?_ ?_
                                        rotate_left
                                        ·intro w'
                                         go_simp
                                         with_reducible rfl
                                        rotate_left
                                        ·simp only [Act.put, sa_, sz_, ss_, i64_w, i32_w]
                                         rfl
                                        refine done_ (done_of HT_.out (by kernel_rfl)) ?_
                                        have hcz186_0 : w185.cell? ⟨gb245, 0, none⟩ = some (.int .i64 t239) := (blk_cell BK245.out 0).trans rfl
                                        have hcz186_1 : w185.cell? ⟨gb245, 1, none⟩ = some (.slice Ao178 t240.length co178) := (blk_cell BK245.out 1).trans rfl
                                        have hfz186_0 := blk_frozen BK245.out 0
                                        have hfz186_1 := blk_frozen BK245.out 1
                                        have hcz187_0 : w185.cell? ⟨gb238, 0, none⟩ = some (.int .i64 t233) := (blk_cell BK238.out 0).trans rfl
                                        have hcz187_1 : w185.cell? ⟨gb238, 1, none⟩ = some (.slice Ao169 t234.length co169) := (blk_cell BK238.out 1).trans rfl
                                        have hfz187_0 := blk_frozen BK238.out 0
                                        have hfz187_1 := blk_frozen BK238.out 1
                                        have p259 : 0 ≤ (t239 : Int) := od_
                                        have q259 : t239 < (t234.length : Int) := od_
                                        obtain ⟨ad259, e259, hx259_0, hx259_1, hx259_2, hx259_3⟩ := at_T33 (Kd.R_reads' HO236.out).2.2 t239 p259 q259
                                        cases e259
                                        replace p259 := eq_true p259
                                        replace q259 := eq_true q259
                                        obtain ⟨Ao188, co188, eo188⟩ := Kd.R_slice HO258.out
                                        subst eo188
                                        try go_wp2_with (first | (go_at_call 16; (with_reducible refine (standstillref06_SameCount.calls kj124 0 _ _ y256 0 _ _ t240 true _ ?side1 ?side2 ?side3 ?side4 A152.out).mono ?_); (case side1 => repeat (first | exact (Kd.R_reads' HO258.out).2.2 | (with_reducible refine Kd.C_alloc ?_ _) | (with_reducible refine Kd.C_drewN ?_ _) | (with_reducible refine Kd.C_drew ?_))); (case side2 => exact (Kd.R_reads' HO258.out).2.1); (case side3 => repeat (first | exact (Kd.R_reads' HO242.out).2.2 | (with_reducible refine Kd.C_alloc ?_ _) | (with_reducible refine Kd.C_drewN ?_ _) | (with_reducible refine Kd.C_drew ?_))); (case side4 => exact (Kd.R_reads' HO242.out).2.1); rintro e w189 ⟨rfl, hb⟩; have n0_ := A_ (Kd.R_below (rk_ HO_8.out) hb); have n1_ := A_ (Kd.R_below (rk_ HO_13.out) hb); have n2_ := A_ (Kd.R_below (rk_ HO_202001.out) hb); have n3_ := A_ (Kd.R_below (rk_ HO_230001.out) hb); have n4_ := A_ (Kd.R_below (rk_ HO236.out) hb); have n5_ := A_ (Kd.R_below (rk_ HO242.out) hb); have n6_ := A_ (Kd.R_below (rk_ HO258.out) hb); have n7_ := A_ (blk_below (pk_ BK181.out) hb); have n8_ := A_ (blk_below (pk_ BK182.out) hb); have n9_ := A_ (blk_below (pk_ BK201.out) hb); have n10_ := A_ (blk_below (pk_ BK229.out) hb); have n11_ := A_ (blk_below (pk_ BK238.out) hb); have n12_ := A_ (blk_below (pk_ BK245.out) hb); have n13_ := A_ (Kd.C_below (by repeat (first | (with_reducible exact HR255.out) | (with_reducible refine Kd.C_alloc ?_ _) | (with_reducible refine Kd.C_drewN ?_ _) | (with_reducible refine Kd.C_drew ?_) | exact HR255.out)) hb); have n14_ := A_ (below_step (bk_ HB.out) hb); clear HO_8 HO_13 HO_202001 HO_230001 HO236 HO242 HO258 BK181 BK182 BK201 BK229 BK238 BK245 HR255 HB; have HO_8 := n0_; have HO_13 := n1_; have HO_202001 := n2_; have HO_230001 := n3_; have HO236 := n4_; have HO242 := n5_; have HO258 := n6_; have BK181 := n7_; have BK182 := n8_; have BK201 := n9_; have BK229 := n10_; have BK238 := n11_; have BK245 := n12_; have HR255 := n13_; have HB := n14_; clear n0_ n1_ n2_ n3_ n4_ n5_ n6_ n7_ n8_ n9_ n10_ n11_ n12_ n13_ n14_; (try clear hb); (try clear hb2); (try clear hk); (try clear hi)) | (go_at_call 10; (with_reducible refine (standstilllaw06_awake.calls kj124  t261 _ A154.out).mono ?_); rintro e w190 ⟨rfl, hb⟩; have n0_ := A_ (Kd.R_below (rk_ HO_8.out) hb); have n1_ := A_ (Kd.R_below (rk_ HO_13.out) hb); have n2_ := A_ (Kd.R_below (rk_ HO_202001.out) hb); have n3_ := A_ (Kd.R_below (rk_ HO_230001.out) hb); have n4_ := A_ (Kd.R_below (rk_ HO236.out) hb); have n5_ := A_ (Kd.R_below (rk_ HO242.out) hb); have n6_ := A_ (Kd.R_below (rk_ HO258.out) hb); have n7_ := A_ (blk_below (pk_ BK181.out) hb); have n8_ := A_ (blk_below (pk_ BK182.out) hb); have n9_ := A_ (blk_below (pk_ BK201.out) hb); have n10_ := A_ (blk_below (pk_ BK229.out) hb); have n11_ := A_ (blk_below (pk_ BK238.out) hb); have n12_ := A_ (blk_below (pk_ BK245.out) hb); have n13_ := A_ (Kd.C_below (by repeat (first | (with_reducible exact HR255.out) | (with_reducible refine Kd.C_alloc ?_ _) | (with_reducible refine Kd.C_drewN ?_ _) | (with_reducible refine Kd.C_drew ?_) | exact HR255.out)) hb); have n14_ := A_ (below_step (bk_ HB.out) hb); clear HO_8 HO_13 HO_202001 HO_230001 HO236 HO242 HO258 BK181 BK182 BK201 BK229 BK238 BK245 HR255 HB; have HO_8 := n0_; have HO_13 := n1_; have HO_202001 := n2_; have HO_230001 := n3_; have HO236 := n4_; have HO242 := n5_; have HO258 := n6_; have BK181 := n7_; have BK182 := n8_; have BK201 := n9_; have BK229 := n10_; have BK238 := n11_; have BK245 := n12_; have HR255 := n13_; have HB := n14_; clear n0_ n1_ n2_ n3_ n4_ n5_ n6_ n7_ n8_ n9_ n10_ n11_ n12_ n13_ n14_; (try clear hb); (try clear hb2); (try clear hk); (try clear hi)))
                                        go_ret
                                        exact ⟨by first | rfl | (simp [errW_none, errW_some] <;> rfl) | (simp only [← hji34]; first | rfl | (simp [errW_none, errW_some] <;> rfl)) | (simp [*, errW_none, errW_some] <;> rfl), bk_ HB.out⟩
                                       ·replace c153 := Bool.eq_false_iff.mpr c153
                                        subst c153
                                        have H1 : (none) = some r := by rw [if_neg (show ¬ (false = true) by decide)] at H; exact H
                                        clear H
                                        have H := H1
                                        clear H1
                                        exact absurd H (by simp)
                                      ·rw [if_neg c151] at H
                                       exact absurd H (by simp)
                                     ·rw [if_neg c150] at H
                                      exact absurd H (by simp)
                                    ·rw [if_neg c149] at H
                                     exact absurd H (by simp)
                                   ·rw [if_neg c148] at H
                                    exact absurd H (by simp)
                                  ·rw [if_neg c147] at H
                                   exact absurd H (by simp)
                                 ·rw [if_neg c146] at H
                                  exact absurd H (by simp)
                                ·rw [if_neg c145] at H
                                 exact absurd H (by simp)
                               ·rw [if_neg c144] at H
                                exact absurd H (by simp)
                              ·rw [if_neg c143] at H
                               exact absurd H (by simp)
                             ·rw [if_neg c142] at H
                              exact absurd H (by simp)
                            ·rw [if_neg c141] at H
                             exact absurd H (by simp)
                     ·rw [if_neg c96] at H
                      exact absurd H (by simp)
                    ·rw [if_neg c95] at H
                     exact absurd H (by simp)
                   ·rw [if_neg c94] at H
                    exact absurd H (by simp)
                  ·rw [if_neg c93] at H
                   exact absurd H (by simp)
                 ·rw [if_neg c92] at H
                  exact absurd H (by simp)
                ·rw [if_neg c91] at H
                 exact absurd H (by simp)
         ·rw [if_neg c51] at H
          exact absurd H (by simp)
        ·rw [if_neg c50] at H
         exact absurd H (by simp)
     ·rw [if_neg c36] at H
      exact absurd H (by simp)
    ·rw [if_neg c35] at H
     exact absurd H (by simp)

/-- THE ONE PURE STATEMENT of standstilllaw06_CounterJoined. -/
def standstilllaw06_CounterJoined.Pure : Prop := ∀ (a0_0 : Int) (l0_1 : List (S33)) (a1_0 : Int) (l1_1 : List (S33)) (l2 : List Int), ((Lit.int .i64 a0_0).wf = true) → (l0_1.length * 32 ≤ 140737488351232 ∧ ∀ y_ ∈ l0_1, inv33 y_) → ((Lit.int .i64 a1_0).wf = true) → (l1_1.length * 32 ≤ 140737488351232 ∧ ∀ y_ ∈ l1_1, inv33 y_) → (l2.length * 8 ≤ 140737488351232 ∧ ∀ y_ ∈ l2, (Lit.int .i64 y_).wf = true) → ∃ k, standstilllaw06_CounterJoined.f k a0_0 l0_1 a1_0 l1_1 l2 = some true

end Go.Proofs.Ytkekehpfkfadfaa.PCounterJoined
