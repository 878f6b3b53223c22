-- out of a turned copy of the print, by a program of this session; Lean checks it
import Derived.Test.YtcdejoaekkcknaaPBlockPartsx0
import Derived.Test.YtcdejoaekkcknaaPBlockPartsx1
import Derived.Test.YtcdejoaekkcknaaPBlockPartsx3
import Derived.Test.YtcdejoaekkcknaaPBlockPartsx4
import Derived.Test.YtcdejoaekkcknaaPBlockPartsx7
namespace Go.Proofs.Ytcdejoaekkcknaa.PBlockParts
open Go.RowKit Go.Proofs.YtcdejoaekkcknaaW.PrintWords Go.Proofs.YtcdejoaekkcknaaW.PrintLast Go.Proofs.YtcdejoaekkcknaaW.PrintMore
attribute [local go_sem] max2_int min2_int max_two min_two max_three min_three max_four min_four   -- for this text's walks alone
set_option linter.unusedVariables false
set_option linter.unusedSimpArgs false

attribute [local go_sem] isSome_put_
/-! ### standstilllaw05_BlockParts: function 4 -/
mutual
def standstilllaw05_BlockParts.j0 : Nat → Int → Int → List Int → Int → Bool → Int → Int → List (List (S57)) → Option (Bool)
 | 0, _, _, _, _, _, _, _, _ => none
 | k + 1, x1, x2, x3, x4, x60, x217000, x217001, x217002 => if x60 = true then ((standstilllaw05_awake.f k).bind fun t220 => (some t220)) else (if (wrap64 ((x3.length : Int) - 1)) = 0 then (none) else ((block_Cross.f k x217000 x217001 x217002 x1 x2 x3).bind fun bt221 => (if bt221.2.2.2.2.2 = 0 then ((some (([] : List Int) : List Int)).bind fun y230 => (if y230.length + x3.length < 17592186044416 then (standstilllaw05_BlockParts.l0 k x1 x2 x3 (wrap64 (1 + (Int.tmod (wrap64 (x4)) (wrap64 ((x3.length : Int) - 1))))) (y230 ++ x3) 0 0 x217000 x217001 x217002 bt221.1 bt221.2.1 bt221.2.2.1 bt221.2.2.2.1 bt221.2.2.2.2.1) else (none))) else (none))))
def standstilllaw05_BlockParts.l0 : Nat → Int → Int → List Int → Int → List Int → Int → Int → Int → Int → List (List (S57)) → Int → Int → Int → Int → List Int → Option (Bool)
 | 0, _, _, _, _, _, _, _, _, _, _, _, _, _, _, _ => none
 | k + 1, x1, x2, x3, x11, x14, x15, x16, x217000, x217001, x217002, x230000, x230001, x230002, x230003, x230004 => if x16 ≤ 3000 then (standstilllaw05_BlockParts.j2 k x1 x2 x3 x11 x14 x15 x16 true x217000 x217001 x217002 x230000 x230001 x230002 x230003 x230004) else (standstilllaw05_BlockParts.j2 k x1 x2 x3 x11 x14 x15 x16 (x230000 != 3) x217000 x217001 x217002 x230000 x230001 x230002 x230003 x230004)
def standstilllaw05_BlockParts.j2 : Nat → Int → Int → List Int → Int → List Int → Int → Int → Bool → Int → Int → List (List (S57)) → Int → Int → Int → Int → List Int → Option (Bool)
 | 0, _, _, _, _, _, _, _, _, _, _, _, _, _, _, _, _ => none
 | k + 1, x1, x2, x3, x11, x14, x15, x16, x88, x217000, x217001, x217002, x230000, x230001, x230002, x230003, x230004 => if x88 = true then (if x2 ≥ x11 then (standstilllaw05_BlockParts.j3 k x1 x2 x3 x11 x14 x15 x16 x11 (x3.length : Int) x217000 x217001 x217002 x230000 x230001 x230002 x230003 x230004) else (standstilllaw05_BlockParts.j3 k x1 x2 x3 x11 x14 x15 x16 0 x11 x217000 x217001 x217002 x230000 x230001 x230002 x230003 x230004)) else ((standstilllaw05_awake.f k).bind fun t236 => (some t236))
def standstilllaw05_BlockParts.j3 : Nat → Int → Int → List Int → Int → List Int → Int → Int → Int → Int → Int → Int → List (List (S57)) → Int → Int → Int → Int → List Int → Option (Bool)
 | 0, _, _, _, _, _, _, _, _, _, _, _, _, _, _, _, _, _ => none
 | k + 1, x1, x2, x3, x11, x14, x15, x16, x17, x18, x217000, x217001, x217002, x230000, x230001, x230002, x230003, x230004 => if 0 ≤ x17 then (if x17 ≤ x18 then (if x18 ≤ (x14.length : Int) then ((block_Cross.f k x217000 x217001 x217002 x1 (wrap64 (x2 - x17)) ((x14.take (x18 : Int).toNat).drop (x17 : Int).toNat)).bind fun bt241 => (if bt241.2.2.2.2.2 = 0 then (if bt241.1 = 3 then (if x230000 = 3 then ((standstilllaw05_awake.f k).bind fun t250 => (some t250)) else (none)) else (if (bt241.2.2.2.2.1.length : Int) = (wrap64 (x18 - x17)) then (standstilllaw05_BlockParts.j4 k x3 x11 x14 x15 x16 x17 (decide (bt241.2.2.1 < 1)) x217000 x217001 x217002 x230000 x230001 x230002 x230003 x230004 bt241.1 bt241.2.1 bt241.2.2.1 bt241.2.2.2.1 bt241.2.2.2.2.1) else (standstilllaw05_BlockParts.j4 k x3 x11 x14 x15 x16 x17 true x217000 x217001 x217002 x230000 x230001 x230002 x230003 x230004 bt241.1 bt241.2.1 bt241.2.2.1 bt241.2.2.2.1 bt241.2.2.2.2.1))) else (none))) else (none)) else (none)) else (none)
def standstilllaw05_BlockParts.j4 : Nat → List Int → Int → List Int → Int → Int → Int → Bool → Int → Int → List (List (S57)) → Int → Int → Int → Int → List Int → Int → Int → Int → Int → List Int → Option (Bool)
 | 0, _, _, _, _, _, _, _, _, _, _, _, _, _, _, _, _, _, _, _, _ => none
 | k + 1, x3, x11, x14, x15, x16, x17, x133, x217000, x217001, x217002, x230000, x230001, x230002, x230003, x230004, x250000, x250001, x250002, x250003, x250004 => if x133 = true then (none) else (standstilllaw05_BlockParts.l1 k x3 x11 x14 x15 x16 x17 0 x217000 x217001 x217002 x230000 x230001 x230002 x230003 x230004 x250000 x250001 x250002 x250003 x250004)
def standstilllaw05_BlockParts.l1 : Nat → List Int → Int → List Int → Int → Int → Int → Int → Int → Int → List (List (S57)) → Int → Int → Int → Int → List Int → Int → Int → Int → Int → List Int → Option (Bool)
 | 0, _, _, _, _, _, _, _, _, _, _, _, _, _, _, _, _, _, _, _, _ => none
 | k + 1, x3, x11, x14, x15, x16, x17, x21, x217000, x217001, x217002, x230000, x230001, x230002, x230003, x230004, x250000, x250001, x250002, x250003, x250004 => if x21 < (x250004.length : Int) then (if 0 ≤ x21 then (if 0 ≤ (wrap64 (x17 + x21)) then (if (wrap64 (x17 + x21)) < (x14.length : Int) then (standstilllaw05_BlockParts.l1 k x3 x11 (x14.set ((wrap64 (x17 + x21)) : Int).toNat (rd x250004 x21)) x15 x16 x17 (wrap64 (x21 + 1)) x217000 x217001 x217002 x230000 x230001 x230002 x230003 x230004 x250000 x250001 x250002 x250003 x250004) else (none)) else (none)) else (none)) else (if x250000 = 2 then (standstilllaw05_BlockParts.j6 k x250001 (wrap64 (x17 + x250003)) x3 x11 x14 (wrap64 (x15 + x250002)) x16 true x217000 x217001 x217002 x230000 x230001 x230002 x230003 x230004 x250000 x250001 x250002 x250003 x250004) else (if (wrap64 (x17 + x250003)) < 0 then (standstilllaw05_BlockParts.j6 k x250001 (wrap64 (x17 + x250003)) x3 x11 x14 (wrap64 (x15 + x250002)) x16 true x217000 x217001 x217002 x230000 x230001 x230002 x230003 x230004 x250000 x250001 x250002 x250003 x250004) else (standstilllaw05_BlockParts.j6 k x250001 (wrap64 (x17 + x250003)) x3 x11 x14 (wrap64 (x15 + x250002)) x16 (decide ((wrap64 (x17 + x250003)) ≥ (x3.length : Int))) x217000 x217001 x217002 x230000 x230001 x230002 x230003 x230004 x250000 x250001 x250002 x250003 x250004)))
def standstilllaw05_BlockParts.j6 : Nat → Int → Int → List Int → Int → List Int → Int → Int → Bool → Int → Int → List (List (S57)) → Int → Int → Int → Int → List Int → Int → Int → Int → Int → List Int → Option (Bool)
 | 0, _, _, _, _, _, _, _, _, _, _, _, _, _, _, _, _, _, _, _, _, _ => none
 | k + 1, x1, x2, x3, x11, x14, x15, x16, x173, x217000, x217001, x217002, x230000, x230001, x230002, x230003, x230004, x250000, x250001, x250002, x250003, x250004 => if x173 = true then (if x230000 = x250000 then (if x230001 = x1 then (if x230003 = x2 then (if x230002 = x15 then ((standstillref01_SameInts.f k x230004 x14).bind fun t253 => (if t253 = true then ((standstilllaw05_awake.f k).bind fun t254 => (some t254)) else (none))) else (none)) else (none)) else (none)) else (none)) else (if x230000 = 3 then (standstilllaw05_BlockParts.l0 k x1 x2 x3 x11 x14 x15 (wrap64 (x16 + 1)) x217000 x217001 x217002 x230000 x230001 x230002 x230003 x230004) else (if x15 > x230002 then (none) else (standstilllaw05_BlockParts.l0 k x1 x2 x3 x11 x14 x15 (wrap64 (x16 + 1)) x217000 x217001 x217002 x230000 x230001 x230002 x230003 x230004)))
end
def standstilllaw05_BlockParts.f (k : Nat) (a0_0 : Int) (a0_1 : Int) (l0_2 : List (List (S57))) (a1 : Int) (a2 : Int) (l3 : List Int) (a4 : Int) : Option (Bool) := (standstilllaw05_wide.f k a0_0 a0_1 l0_2).bind fun t217 => (if t217 = true then (standstilllaw05_BlockParts.j0 k a1 a2 l3 a4 true a0_0 a0_1 l0_2) else ((standstillref01_Valid.f k a0_0 a0_1 l0_2).bind fun t218 => (if t218 = true then (if a1 < 0 then (standstilllaw05_BlockParts.j0 k a1 a2 l3 a4 true a0_0 a0_1 l0_2) else (if a1 ≥ a0_0 then (standstilllaw05_BlockParts.j0 k a1 a2 l3 a4 true a0_0 a0_1 l0_2) else ((standstillref05_Word.f k a0_0 a0_1 l0_2 l3).bind fun t219 => (if t219 = true then (if (l3.length : Int) < 2 then (standstilllaw05_BlockParts.j0 k a1 a2 l3 a4 true a0_0 a0_1 l0_2) else (if a2 < 0 then (standstilllaw05_BlockParts.j0 k a1 a2 l3 a4 true a0_0 a0_1 l0_2) else (standstilllaw05_BlockParts.j0 k a1 a2 l3 a4 (decide (a2 ≥ (l3.length : Int))) a0_0 a0_1 l0_2))) else (standstilllaw05_BlockParts.j0 k a1 a2 l3 a4 true a0_0 a0_1 l0_2))))) else (standstilllaw05_BlockParts.j0 k a1 a2 l3 a4 true a0_0 a0_1 l0_2))))
theorem standstilllaw05_BlockParts.mono_l : ∀ k, (∀ y0 y1 y2 y3 y4 y5 y6 y7, LeO (standstilllaw05_BlockParts.j0 k y0 y1 y2 y3 y4 y5 y6 y7) (standstilllaw05_BlockParts.j0 (k + 1) y0 y1 y2 y3 y4 y5 y6 y7)) ∧ (∀ y0 y1 y2 y3 y4 y5 y6 y7 y8 y9 y10 y11 y12 y13 y14, LeO (standstilllaw05_BlockParts.l0 k y0 y1 y2 y3 y4 y5 y6 y7 y8 y9 y10 y11 y12 y13 y14) (standstilllaw05_BlockParts.l0 (k + 1) y0 y1 y2 y3 y4 y5 y6 y7 y8 y9 y10 y11 y12 y13 y14)) ∧ (∀ y0 y1 y2 y3 y4 y5 y6 y7 y8 y9 y10 y11 y12 y13 y14 y15, LeO (standstilllaw05_BlockParts.j2 k y0 y1 y2 y3 y4 y5 y6 y7 y8 y9 y10 y11 y12 y13 y14 y15) (standstilllaw05_BlockParts.j2 (k + 1) y0 y1 y2 y3 y4 y5 y6 y7 y8 y9 y10 y11 y12 y13 y14 y15)) ∧ (∀ y0 y1 y2 y3 y4 y5 y6 y7 y8 y9 y10 y11 y12 y13 y14 y15 y16, LeO (standstilllaw05_BlockParts.j3 k y0 y1 y2 y3 y4 y5 y6 y7 y8 y9 y10 y11 y12 y13 y14 y15 y16) (standstilllaw05_BlockParts.j3 (k + 1) y0 y1 y2 y3 y4 y5 y6 y7 y8 y9 y10 y11 y12 y13 y14 y15 y16)) ∧ (∀ y0 y1 y2 y3 y4 y5 y6 y7 y8 y9 y10 y11 y12 y13 y14 y15 y16 y17 y18 y19, LeO (standstilllaw05_BlockParts.j4 k y0 y1 y2 y3 y4 y5 y6 y7 y8 y9 y10 y11 y12 y13 y14 y15 y16 y17 y18 y19) (standstilllaw05_BlockParts.j4 (k + 1) y0 y1 y2 y3 y4 y5 y6 y7 y8 y9 y10 y11 y12 y13 y14 y15 y16 y17 y18 y19)) ∧ (∀ y0 y1 y2 y3 y4 y5 y6 y7 y8 y9 y10 y11 y12 y13 y14 y15 y16 y17 y18 y19, LeO (standstilllaw05_BlockParts.l1 k y0 y1 y2 y3 y4 y5 y6 y7 y8 y9 y10 y11 y12 y13 y14 y15 y16 y17 y18 y19) (standstilllaw05_BlockParts.l1 (k + 1) y0 y1 y2 y3 y4 y5 y6 y7 y8 y9 y10 y11 y12 y13 y14 y15 y16 y17 y18 y19)) ∧ (∀ y0 y1 y2 y3 y4 y5 y6 y7 y8 y9 y10 y11 y12 y13 y14 y15 y16 y17 y18 y19 y20, LeO (standstilllaw05_BlockParts.j6 k y0 y1 y2 y3 y4 y5 y6 y7 y8 y9 y10 y11 y12 y13 y14 y15 y16 y17 y18 y19 y20) (standstilllaw05_BlockParts.j6 (k + 1) y0 y1 y2 y3 y4 y5 y6 y7 y8 y9 y10 y11 y12 y13 y14 y15 y16 y17 y18 y19 y20))
 | 0 => ⟨fun _ _ _ _ _ _ _ _ r h => by simp [standstilllaw05_BlockParts.j0] at h, fun _ _ _ _ _ _ _ _ _ _ _ _ _ _ _ r h => by simp [standstilllaw05_BlockParts.l0] at h, fun _ _ _ _ _ _ _ _ _ _ _ _ _ _ _ _ r h => by simp [standstilllaw05_BlockParts.j2] at h, fun _ _ _ _ _ _ _ _ _ _ _ _ _ _ _ _ _ r h => by simp [standstilllaw05_BlockParts.j3] at h, fun _ _ _ _ _ _ _ _ _ _ _ _ _ _ _ _ _ _ _ _ r h => by simp [standstilllaw05_BlockParts.j4] at h, fun _ _ _ _ _ _ _ _ _ _ _ _ _ _ _ _ _ _ _ _ r h => by simp [standstilllaw05_BlockParts.l1] at h, fun _ _ _ _ _ _ _ _ _ _ _ _ _ _ _ _ _ _ _ _ _ r h => by simp [standstilllaw05_BlockParts.j6] at h⟩
 | k + 1 => by
  obtain ⟨ih0, ih1, ih2, ih3, ih4, ih5, ih6⟩ := standstilllaw05_BlockParts.mono_l k
  refine ⟨?_, ?_, ?_, ?_, ?_, ?_, ?_⟩
  ·intro y0 y1 y2 y3 y4 y5 y6 y7
   unfold standstilllaw05_BlockParts.j0
   repeat' first
   | (with_reducible exact ih0 _ _ _ _ _ _ _ _)
   | (with_reducible exact ih1 _ _ _ _ _ _ _ _ _ _ _ _ _ _ _)
   | (with_reducible exact ih2 _ _ _ _ _ _ _ _ _ _ _ _ _ _ _ _)
   | (with_reducible exact ih3 _ _ _ _ _ _ _ _ _ _ _ _ _ _ _ _ _)
   | (with_reducible exact ih4 _ _ _ _ _ _ _ _ _ _ _ _ _ _ _ _ _ _ _ _)
   | (with_reducible exact ih5 _ _ _ _ _ _ _ _ _ _ _ _ _ _ _ _ _ _ _ _)
   | (with_reducible exact ih6 _ _ _ _ _ _ _ _ _ _ _ _ _ _ _ _ _ _ _ _ _)
   | (with_reducible exact block_Cross.mono _ _ _ _ _ _ _)
   | (with_reducible exact standstilllaw05_awake.mono _)
   | (with_reducible exact standstilllaw05_wide.mono _ _ _ _)
   | (with_reducible exact standstillref01_SameInts.mono _ _ _)
   | (with_reducible exact standstillref01_Valid.mono _ _ _ _)
   | (with_reducible exact standstillref05_Word.mono _ _ _ _ _)
   | (with_reducible exact LeO.refl _)
   | (with_reducible exact LeO.none _)
   | (with_reducible refine LeO.ite ?_ ?_)
   | (with_reducible refine LeO.bind ?_ (fun _ => ?_))
   | exact ih0 _ _ _ _ _ _ _ _
   | exact ih1 _ _ _ _ _ _ _ _ _ _ _ _ _ _ _
   | exact ih2 _ _ _ _ _ _ _ _ _ _ _ _ _ _ _ _
   | exact ih3 _ _ _ _ _ _ _ _ _ _ _ _ _ _ _ _ _
   | exact ih4 _ _ _ _ _ _ _ _ _ _ _ _ _ _ _ _ _ _ _ _
   | exact ih5 _ _ _ _ _ _ _ _ _ _ _ _ _ _ _ _ _ _ _ _
   | exact ih6 _ _ _ _ _ _ _ _ _ _ _ _ _ _ _ _ _ _ _ _ _
   | exact block_Cross.mono _ _ _ _ _ _ _
   | exact standstilllaw05_awake.mono _
   | exact standstilllaw05_wide.mono _ _ _ _
   | exact standstillref01_SameInts.mono _ _ _
   | exact standstillref01_Valid.mono _ _ _ _
   | exact standstillref05_Word.mono _ _ _ _ _
   | exact LeO.none _
   | refine LeO.ite ?_ ?_
   | refine LeO.bind ?_ (fun _ => ?_)
  ·intro y0 y1 y2 y3 y4 y5 y6 y7 y8 y9 y10 y11 y12 y13 y14
   unfold standstilllaw05_BlockParts.l0
   repeat' first
   | (with_reducible exact ih0 _ _ _ _ _ _ _ _)
   | (with_reducible exact ih1 _ _ _ _ _ _ _ _ _ _ _ _ _ _ _)
   | (with_reducible exact ih2 _ _ _ _ _ _ _ _ _ _ _ _ _ _ _ _)
   | (with_reducible exact ih3 _ _ _ _ _ _ _ _ _ _ _ _ _ _ _ _ _)
   | (with_reducible exact ih4 _ _ _ _ _ _ _ _ _ _ _ _ _ _ _ _ _ _ _ _)
   | (with_reducible exact ih5 _ _ _ _ _ _ _ _ _ _ _ _ _ _ _ _ _ _ _ _)
   | (with_reducible exact ih6 _ _ _ _ _ _ _ _ _ _ _ _ _ _ _ _ _ _ _ _ _)
   | (with_reducible exact block_Cross.mono _ _ _ _ _ _ _)
   | (with_reducible exact standstilllaw05_awake.mono _)
   | (with_reducible exact standstilllaw05_wide.mono _ _ _ _)
   | (with_reducible exact standstillref01_SameInts.mono _ _ _)
   | (with_reducible exact standstillref01_Valid.mono _ _ _ _)
   | (with_reducible exact standstillref05_Word.mono _ _ _ _ _)
   | (with_reducible exact LeO.refl _)
   | (with_reducible exact LeO.none _)
   | (with_reducible refine LeO.ite ?_ ?_)
   | (with_reducible refine LeO.bind ?_ (fun _ => ?_))
   | exact ih0 _ _ _ _ _ _ _ _
   | exact ih1 _ _ _ _ _ _ _ _ _ _ _ _ _ _ _
   | exact ih2 _ _ _ _ _ _ _ _ _ _ _ _ _ _ _ _
   | exact ih3 _ _ _ _ _ _ _ _ _ _ _ _ _ _ _ _ _
   | exact ih4 _ _ _ _ _ _ _ _ _ _ _ _ _ _ _ _ _ _ _ _
   | exact ih5 _ _ _ _ _ _ _ _ _ _ _ _ _ _ _ _ _ _ _ _
   | exact ih6 _ _ _ _ _ _ _ _ _ _ _ _ _ _ _ _ _ _ _ _ _
   | exact block_Cross.mono _ _ _ _ _ _ _
   | exact standstilllaw05_awake.mono _
   | exact standstilllaw05_wide.mono _ _ _ _
   | exact standstillref01_SameInts.mono _ _ _
   | exact standstillref01_Valid.mono _ _ _ _
   | exact standstillref05_Word.mono _ _ _ _ _
   | exact LeO.none _
   | refine LeO.ite ?_ ?_
   | refine LeO.bind ?_ (fun _ => ?_)
  ·intro y0 y1 y2 y3 y4 y5 y6 y7 y8 y9 y10 y11 y12 y13 y14 y15
   unfold standstilllaw05_BlockParts.j2
   repeat' first
   | (with_reducible exact ih0 _ _ _ _ _ _ _ _)
   | (with_reducible exact ih1 _ _ _ _ _ _ _ _ _ _ _ _ _ _ _)
   | (with_reducible exact ih2 _ _ _ _ _ _ _ _ _ _ _ _ _ _ _ _)
   | (with_reducible exact ih3 _ _ _ _ _ _ _ _ _ _ _ _ _ _ _ _ _)
   | (with_reducible exact ih4 _ _ _ _ _ _ _ _ _ _ _ _ _ _ _ _ _ _ _ _)
   | (with_reducible exact ih5 _ _ _ _ _ _ _ _ _ _ _ _ _ _ _ _ _ _ _ _)
   | (with_reducible exact ih6 _ _ _ _ _ _ _ _ _ _ _ _ _ _ _ _ _ _ _ _ _)
   | (with_reducible exact block_Cross.mono _ _ _ _ _ _ _)
   | (with_reducible exact standstilllaw05_awake.mono _)
   | (with_reducible exact standstilllaw05_wide.mono _ _ _ _)
   | (with_reducible exact standstillref01_SameInts.mono _ _ _)
   | (with_reducible exact standstillref01_Valid.mono _ _ _ _)
   | (with_reducible exact standstillref05_Word.mono _ _ _ _ _)
   | (with_reducible exact LeO.refl _)
   | (with_reducible exact LeO.none _)
   | (with_reducible refine LeO.ite ?_ ?_)
   | (with_reducible refine LeO.bind ?_ (fun _ => ?_))
   | exact ih0 _ _ _ _ _ _ _ _
   | exact ih1 _ _ _ _ _ _ _ _ _ _ _ _ _ _ _
   | exact ih2 _ _ _ _ _ _ _ _ _ _ _ _ _ _ _ _
   | exact ih3 _ _ _ _ _ _ _ _ _ _ _ _ _ _ _ _ _
   | exact ih4 _ _ _ _ _ _ _ _ _ _ _ _ _ _ _ _ _ _ _ _
   | exact ih5 _ _ _ _ _ _ _ _ _ _ _ _ _ _ _ _ _ _ _ _
   | exact ih6 _ _ _ _ _ _ _ _ _ _ _ _ _ _ _ _ _ _ _ _ _
   | exact block_Cross.mono _ _ _ _ _ _ _
   | exact standstilllaw05_awake.mono _
   | exact standstilllaw05_wide.mono _ _ _ _
   | exact standstillref01_SameInts.mono _ _ _
   | exact standstillref01_Valid.mono _ _ _ _
   | exact standstillref05_Word.mono _ _ _ _ _
   | exact LeO.none _
   | refine LeO.ite ?_ ?_
   | refine LeO.bind ?_ (fun _ => ?_)
  ·intro y0 y1 y2 y3 y4 y5 y6 y7 y8 y9 y10 y11 y12 y13 y14 y15 y16
   unfold standstilllaw05_BlockParts.j3
   repeat' first
   | (with_reducible exact ih0 _ _ _ _ _ _ _ _)
   | (with_reducible exact ih1 _ _ _ _ _ _ _ _ _ _ _ _ _ _ _)
   | (with_reducible exact ih2 _ _ _ _ _ _ _ _ _ _ _ _ _ _ _ _)
   | (with_reducible exact ih3 _ _ _ _ _ _ _ _ _ _ _ _ _ _ _ _ _)
   | (with_reducible exact ih4 _ _ _ _ _ _ _ _ _ _ _ _ _ _ _ _ _ _ _ _)
   | (with_reducible exact ih5 _ _ _ _ _ _ _ _ _ _ _ _ _ _ _ _ _ _ _ _)
   | (with_reducible exact ih6 _ _ _ _ _ _ _ _ _ _ _ _ _ _ _ _ _ _ _ _ _)
   | (with_reducible exact block_Cross.mono _ _ _ _ _ _ _)
   | (with_reducible exact standstilllaw05_awake.mono _)
   | (with_reducible exact standstilllaw05_wide.mono _ _ _ _)
   | (with_reducible exact standstillref01_SameInts.mono _ _ _)
   | (with_reducible exact standstillref01_Valid.mono _ _ _ _)
   | (with_reducible exact standstillref05_Word.mono _ _ _ _ _)
   | (with_reducible exact LeO.refl _)
   | (with_reducible exact LeO.none _)
   | (with_reducible refine LeO.ite ?_ ?_)
   | (with_reducible refine LeO.bind ?_ (fun _ => ?_))
   | exact ih0 _ _ _ _ _ _ _ _
   | exact ih1 _ _ _ _ _ _ _ _ _ _ _ _ _ _ _
   | exact ih2 _ _ _ _ _ _ _ _ _ _ _ _ _ _ _ _
   | exact ih3 _ _ _ _ _ _ _ _ _ _ _ _ _ _ _ _ _
   | exact ih4 _ _ _ _ _ _ _ _ _ _ _ _ _ _ _ _ _ _ _ _
   | exact ih5 _ _ _ _ _ _ _ _ _ _ _ _ _ _ _ _ _ _ _ _
   | exact ih6 _ _ _ _ _ _ _ _ _ _ _ _ _ _ _ _ _ _ _ _ _
   | exact block_Cross.mono _ _ _ _ _ _ _
   | exact standstilllaw05_awake.mono _
   | exact standstilllaw05_wide.mono _ _ _ _
   | exact standstillref01_SameInts.mono _ _ _
   | exact standstillref01_Valid.mono _ _ _ _
   | exact standstillref05_Word.mono _ _ _ _ _
   | exact LeO.none _
   | refine LeO.ite ?_ ?_
   | refine LeO.bind ?_ (fun _ => ?_)
  ·intro y0 y1 y2 y3 y4 y5 y6 y7 y8 y9 y10 y11 y12 y13 y14 y15 y16 y17 y18 y19
   unfold standstilllaw05_BlockParts.j4
   repeat' first
   | (with_reducible exact ih0 _ _ _ _ _ _ _ _)
   | (with_reducible exact ih1 _ _ _ _ _ _ _ _ _ _ _ _ _ _ _)
   | (with_reducible exact ih2 _ _ _ _ _ _ _ _ _ _ _ _ _ _ _ _)
   | (with_reducible exact ih3 _ _ _ _ _ _ _ _ _ _ _ _ _ _ _ _ _)
   | (with_reducible exact ih4 _ _ _ _ _ _ _ _ _ _ _ _ _ _ _ _ _ _ _ _)
   | (with_reducible exact ih5 _ _ _ _ _ _ _ _ _ _ _ _ _ _ _ _ _ _ _ _)
   | (with_reducible exact ih6 _ _ _ _ _ _ _ _ _ _ _ _ _ _ _ _ _ _ _ _ _)
   | (with_reducible exact block_Cross.mono _ _ _ _ _ _ _)
   | (with_reducible exact standstilllaw05_awake.mono _)
   | (with_reducible exact standstilllaw05_wide.mono _ _ _ _)
   | (with_reducible exact standstillref01_SameInts.mono _ _ _)
   | (with_reducible exact standstillref01_Valid.mono _ _ _ _)
   | (with_reducible exact standstillref05_Word.mono _ _ _ _ _)
   | (with_reducible exact LeO.refl _)
   | (with_reducible exact LeO.none _)
   | (with_reducible refine LeO.ite ?_ ?_)
   | (with_reducible refine LeO.bind ?_ (fun _ => ?_))
   | exact ih0 _ _ _ _ _ _ _ _
   | exact ih1 _ _ _ _ _ _ _ _ _ _ _ _ _ _ _
   | exact ih2 _ _ _ _ _ _ _ _ _ _ _ _ _ _ _ _
   | exact ih3 _ _ _ _ _ _ _ _ _ _ _ _ _ _ _ _ _
   | exact ih4 _ _ _ _ _ _ _ _ _ _ _ _ _ _ _ _ _ _ _ _
   | exact ih5 _ _ _ _ _ _ _ _ _ _ _ _ _ _ _ _ _ _ _ _
   | exact ih6 _ _ _ _ _ _ _ _ _ _ _ _ _ _ _ _ _ _ _ _ _
   | exact block_Cross.mono _ _ _ _ _ _ _
   | exact standstilllaw05_awake.mono _
   | exact standstilllaw05_wide.mono _ _ _ _
   | exact standstillref01_SameInts.mono _ _ _
   | exact standstillref01_Valid.mono _ _ _ _
   | exact standstillref05_Word.mono _ _ _ _ _
   | exact LeO.none _
   | refine LeO.ite ?_ ?_
   | refine LeO.bind ?_ (fun _ => ?_)
  ·intro y0 y1 y2 y3 y4 y5 y6 y7 y8 y9 y10 y11 y12 y13 y14 y15 y16 y17 y18 y19
   unfold standstilllaw05_BlockParts.l1
   repeat' first
   | (with_reducible exact ih0 _ _ _ _ _ _ _ _)
   | (with_reducible exact ih1 _ _ _ _ _ _ _ _ _ _ _ _ _ _ _)
   | (with_reducible exact ih2 _ _ _ _ _ _ _ _ _ _ _ _ _ _ _ _)
   | (with_reducible exact ih3 _ _ _ _ _ _ _ _ _ _ _ _ _ _ _ _ _)
   | (with_reducible exact ih4 _ _ _ _ _ _ _ _ _ _ _ _ _ _ _ _ _ _ _ _)
   | (with_reducible exact ih5 _ _ _ _ _ _ _ _ _ _ _ _ _ _ _ _ _ _ _ _)
   | (with_reducible exact ih6 _ _ _ _ _ _ _ _ _ _ _ _ _ _ _ _ _ _ _ _ _)
   | (with_reducible exact block_Cross.mono _ _ _ _ _ _ _)
   | (with_reducible exact standstilllaw05_awake.mono _)
   | (with_reducible exact standstilllaw05_wide.mono _ _ _ _)
   | (with_reducible exact standstillref01_SameInts.mono _ _ _)
   | (with_reducible exact standstillref01_Valid.mono _ _ _ _)
   | (with_reducible exact standstillref05_Word.mono _ _ _ _ _)
   | (with_reducible exact LeO.refl _)
   | (with_reducible exact LeO.none _)
   | (with_reducible refine LeO.ite ?_ ?_)
   | (with_reducible refine LeO.bind ?_ (fun _ => ?_))
   | exact ih0 _ _ _ _ _ _ _ _
   | exact ih1 _ _ _ _ _ _ _ _ _ _ _ _ _ _ _
   | exact ih2 _ _ _ _ _ _ _ _ _ _ _ _ _ _ _ _
   | exact ih3 _ _ _ _ _ _ _ _ _ _ _ _ _ _ _ _ _
   | exact ih4 _ _ _ _ _ _ _ _ _ _ _ _ _ _ _ _ _ _ _ _
   | exact ih5 _ _ _ _ _ _ _ _ _ _ _ _ _ _ _ _ _ _ _ _
   | exact ih6 _ _ _ _ _ _ _ _ _ _ _ _ _ _ _ _ _ _ _ _ _
   | exact block_Cross.mono _ _ _ _ _ _ _
   | exact standstilllaw05_awake.mono _
   | exact standstilllaw05_wide.mono _ _ _ _
   | exact standstillref01_SameInts.mono _ _ _
   | exact standstillref01_Valid.mono _ _ _ _
   | exact standstillref05_Word.mono _ _ _ _ _
   | exact LeO.none _
   | refine LeO.ite ?_ ?_
   | refine LeO.bind ?_ (fun _ => ?_)
  ·intro y0 y1 y2 y3 y4 y5 y6 y7 y8 y9 y10 y11 y12 y13 y14 y15 y16 y17 y18 y19 y20
   unfold standstilllaw05_BlockParts.j6
   repeat' first
   | (with_reducible exact ih0 _ _ _ _ _ _ _ _)
   | (with_reducible exact ih1 _ _ _ _ _ _ _ _ _ _ _ _ _ _ _)
   | (with_reducible exact ih2 _ _ _ _ _ _ _ _ _ _ _ _ _ _ _ _)
   | (with_reducible exact ih3 _ _ _ _ _ _ _ _ _ _ _ _ _ _ _ _ _)
   | (with_reducible exact ih4 _ _ _ _ _ _ _ _ _ _ _ _ _ _ _ _ _ _ _ _)
   | (with_reducible exact ih5 _ _ _ _ _ _ _ _ _ _ _ _ _ _ _ _ _ _ _ _)
   | (with_reducible exact ih6 _ _ _ _ _ _ _ _ _ _ _ _ _ _ _ _ _ _ _ _ _)
   | (with_reducible exact block_Cross.mono _ _ _ _ _ _ _)
   | (with_reducible exact standstilllaw05_awake.mono _)
   | (with_reducible exact standstilllaw05_wide.mono _ _ _ _)
   | (with_reducible exact standstillref01_SameInts.mono _ _ _)
   | (with_reducible exact standstillref01_Valid.mono _ _ _ _)
   | (with_reducible exact standstillref05_Word.mono _ _ _ _ _)
   | (with_reducible exact LeO.refl _)
   | (with_reducible exact LeO.none _)
   | (with_reducible refine LeO.ite ?_ ?_)
   | (with_reducible refine LeO.bind ?_ (fun _ => ?_))
   | exact ih0 _ _ _ _ _ _ _ _
   | exact ih1 _ _ _ _ _ _ _ _ _ _ _ _ _ _ _
   | exact ih2 _ _ _ _ _ _ _ _ _ _ _ _ _ _ _ _
   | exact ih3 _ _ _ _ _ _ _ _ _ _ _ _ _ _ _ _ _
   | exact ih4 _ _ _ _ _ _ _ _ _ _ _ _ _ _ _ _ _ _ _ _
   | exact ih5 _ _ _ _ _ _ _ _ _ _ _ _ _ _ _ _ _ _ _ _
   | exact ih6 _ _ _ _ _ _ _ _ _ _ _ _ _ _ _ _ _ _ _ _ _
   | exact block_Cross.mono _ _ _ _ _ _ _
   | exact standstilllaw05_awake.mono _
   | exact standstilllaw05_wide.mono _ _ _ _
   | exact standstillref01_SameInts.mono _ _ _
   | exact standstillref01_Valid.mono _ _ _ _
   | exact standstillref05_Word.mono _ _ _ _ _
   | exact LeO.none _
   | refine LeO.ite ?_ ?_
   | refine LeO.bind ?_ (fun _ => ?_)
theorem standstilllaw05_BlockParts.mono : ∀ a0 a1 a2 a3 a4 a5 a6 k, LeO (standstilllaw05_BlockParts.f k a0 a1 a2 a3 a4 a5 a6) (standstilllaw05_BlockParts.f (k + 1) a0 a1 a2 a3 a4 a5 a6) := by
 intro a0 a1 a2 a3 a4 a5 a6 k
 obtain ⟨ih0, ih1, ih2, ih3, ih4, ih5, ih6⟩ := standstilllaw05_BlockParts.mono_l k
 unfold standstilllaw05_BlockParts.f
 repeat' first
   | (with_reducible exact ih0 _ _ _ _ _ _ _ _)
   | (with_reducible exact ih1 _ _ _ _ _ _ _ _ _ _ _ _ _ _ _)
   | (with_reducible exact ih2 _ _ _ _ _ _ _ _ _ _ _ _ _ _ _ _)
   | (with_reducible exact ih3 _ _ _ _ _ _ _ _ _ _ _ _ _ _ _ _ _)
   | (with_reducible exact ih4 _ _ _ _ _ _ _ _ _ _ _ _ _ _ _ _ _ _ _ _)
   | (with_reducible exact ih5 _ _ _ _ _ _ _ _ _ _ _ _ _ _ _ _ _ _ _ _)
   | (with_reducible exact ih6 _ _ _ _ _ _ _ _ _ _ _ _ _ _ _ _ _ _ _ _ _)
   | (with_reducible exact block_Cross.mono _ _ _ _ _ _ _)
   | (with_reducible exact standstilllaw05_awake.mono _)
   | (with_reducible exact standstilllaw05_wide.mono _ _ _ _)
   | (with_reducible exact standstillref01_SameInts.mono _ _ _)
   | (with_reducible exact standstillref01_Valid.mono _ _ _ _)
   | (with_reducible exact standstillref05_Word.mono _ _ _ _ _)
   | (with_reducible exact LeO.refl _)
   | (with_reducible exact LeO.none _)
   | (with_reducible refine LeO.ite ?_ ?_)
   | (with_reducible refine LeO.bind ?_ (fun _ => ?_))
   | exact ih0 _ _ _ _ _ _ _ _
   | exact ih1 _ _ _ _ _ _ _ _ _ _ _ _ _ _ _
   | exact ih2 _ _ _ _ _ _ _ _ _ _ _ _ _ _ _ _
   | exact ih3 _ _ _ _ _ _ _ _ _ _ _ _ _ _ _ _ _
   | exact ih4 _ _ _ _ _ _ _ _ _ _ _ _ _ _ _ _ _ _ _ _
   | exact ih5 _ _ _ _ _ _ _ _ _ _ _ _ _ _ _ _ _ _ _ _
   | exact ih6 _ _ _ _ _ _ _ _ _ _ _ _ _ _ _ _ _ _ _ _ _
   | exact block_Cross.mono _ _ _ _ _ _ _
   | exact standstilllaw05_awake.mono _
   | exact standstilllaw05_wide.mono _ _ _ _
   | exact standstillref01_SameInts.mono _ _ _
   | exact standstillref01_Valid.mono _ _ _ _
   | exact standstillref05_Word.mono _ _ _ _ _
   | exact LeO.none _
   | refine LeO.ite ?_ ?_
   | refine LeO.bind ?_ (fun _ => ?_)
def standstilllaw05_BlockParts.T14 : Bool × List (List Nat × List Nat) := (true, [([], []), ([], []), ([], []), ([], []), ([2, 3], [2, 3]), ([], []), ([], []), ([], []), ([5, 6, 7], [5, 6, 7]), ([0, 1, 4, 8], [0, 1, 4, 8]), ([9], [9]), ([10], [10]), ([10], [10]), ([], []), ([13, 11, 9, 0, 1, 2, 3, 4, 5, 6, 7, 8, 9, 10, 11, 13], [11, 13]), ([12, 14, 0, 1, 2, 3, 4, 5, 6, 7, 8, 9, 10, 11, 12, 13, 14], [12])])
def standstilllaw05_BlockParts.B14 : List Nat := [0, 0, 0, 0, 12, 0, 0, 0, 224, 511, 1023, 2047, 2047, 0, 12287, 32767]
theorem standstilllaw05_BlockParts.tab14 : rtab .any (opsOf Try.f4 14) = standstilllaw05_BlockParts.T14 := by kernel_rfl
theorem standstilllaw05_BlockParts.bits14 : waitsOk standstilllaw05_BlockParts.T14.2 standstilllaw05_BlockParts.B14 = true := by kernel_rfl
def standstilllaw05_BlockParts.T25 : Bool × List (List Nat × List Nat) := (true, [([], []), ([0], [0]), ([], []), ([], []), ([3], [3]), ([2, 4], [2, 4]), ([], []), ([], []), ([7], [7]), ([6, 8], [6, 8]), ([1, 0, 1], [1]), ([5, 10, 0, 1, 2, 3, 4, 5, 10], [5]), ([9, 11, 0, 1, 2, 3, 4, 5, 6, 7, 8, 9, 10, 11], [6, 9])])
def standstilllaw05_BlockParts.B25 : List Nat := [0, 1, 0, 0, 8, 28, 0, 0, 128, 448, 3, 1087, 4095]
theorem standstilllaw05_BlockParts.tab25 : rtab .any (opsOf Try.f4 25) = standstilllaw05_BlockParts.T25 := by kernel_rfl
theorem standstilllaw05_BlockParts.bits25 : waitsOk standstilllaw05_BlockParts.T25.2 standstilllaw05_BlockParts.B25 = true := by kernel_rfl
set_option maxHeartbeats 8000000 in
set_option maxRecDepth 100000 in
theorem standstilllaw05_BlockParts.calls (k : Nat) (a0_0 : Int) (a0_1 : Int) (A0_2 : Option Addr) (c0_2 : Nat) (l0_2 : List (List (S57))) (a1 : Int) (a2 : Int) (A3 : Option Addr) (c3 : Nat) (l3 : List Int) (a4 : Int) (r : Bool) (w : World) (hr0_2 : Kd.C (Kd.slice 57 k57) w A0_2 l0_2.length l0_2) (hc0_2 : l0_2.length ≤ c0_2) (hr3 : Kd.C (Kd.int .i64) w A3 l3.length l3) (hc3 : l3.length ≤ c3) (h : standstilllaw05_BlockParts.f k a0_0 a0_1 l0_2 a1 a2 l3 a4 = some r) :
  Calls Try.prog 4 #[.agg #[.int .i64 a0_0, .int .i64 a0_1, .slice A0_2 l0_2.length c0_2], .int .i64 a1, .int .i64 a2, .slice A3 l3.length c3, .int .u8 a4] w fun e w' => e = .returned (.bool r) ∧ Below w.heap.size w w' := by
 have hu24 := Try.underlying24
 have hu29 := Try.underlying29
 have HR0_2 := Aside0.mk hr0_2
 have HC0_2 := Aside0.mk hc0_2
 clear hr0_2 hc0_2
 have HR3 := Aside0.mk hr3
 have HC3 := Aside0.mk hc3
 clear hr3 hc3
 have HB := A_ (Below.refl w.heap.size w)
 have H : ((standstilllaw05_wide.f k a0_0 a0_1 l0_2).bind fun t217 => (if t217 = true then (standstilllaw05_BlockParts.j0 k a1 a2 l3 a4 true a0_0 a0_1 l0_2) else ((standstillref01_Valid.f k a0_0 a0_1 l0_2).bind fun t218 => (if t218 = true then (if a1 < 0 then (standstilllaw05_BlockParts.j0 k a1 a2 l3 a4 true a0_0 a0_1 l0_2) else (if a1 ≥ a0_0 then (standstilllaw05_BlockParts.j0 k a1 a2 l3 a4 true a0_0 a0_1 l0_2) else ((standstillref05_Word.f k a0_0 a0_1 l0_2 l3).bind fun t219 => (if t219 = true then (if (l3.length : Int) < 2 then (standstilllaw05_BlockParts.j0 k a1 a2 l3 a4 true a0_0 a0_1 l0_2) else (if a2 < 0 then (standstilllaw05_BlockParts.j0 k a1 a2 l3 a4 true a0_0 a0_1 l0_2) else (standstilllaw05_BlockParts.j0 k a1 a2 l3 a4 (decide (a2 ≥ (l3.length : Int))) a0_0 a0_1 l0_2))) else (standstilllaw05_BlockParts.j0 k a1 a2 l3 a4 true a0_0 a0_1 l0_2))))) else (standstilllaw05_BlockParts.j0 k a1 a2 l3 a4 true a0_0 a0_1 l0_2))))) = some r := h
 clear h
 have HC6 := Aside0.mk H
 clear H
 go_enter Try.func4, Try.ntmps4
 go_upto_region 1 with (first | ((with_reducible refine gate_dst (N := 5) rfl ?_); (try (refine gate_guard (by rfl) ?_; dsimp only)); refine box_event ?hg (N := 5) ?hd (cs := #[.int .i64 a0_0, .int .i64 a0_1, .slice A0_2 l0_2.length c0_2]) (t := 24) ?hr ?_; (case hd => rfl); (case hg => rfl); (case hr => first | (go_simp; done) | (go_simp; rfl)); intro gb216 hg w7 hbox hb; have n0_ := A_ (below_step (bk_ HB.out) hb); have n1_ := A_ (hbox); have n2_ := A_ ((by rw [hg]; exact (below_size (bk_ HB.out)) : w.heap.size ≤ gb216)); have n3_ := A_ ((by rw [hg]; exact (below_size (bk_ HB.out)) : w.heap.size ≤ gb216)); clear HB; have HB := n0_; have BK216 := n1_; have GW216 := n2_; have GE216 := n3_; clear n0_ n1_ n2_ n3_ hb hbox hg))
 (try simp only [Act.put, List.setIfInBounds_toArray, List.set_cons_zero, List.set_cons_succ])
 go_cut [60] (fun v60 wc => ∃ (kq : Nat) (x60_5 : Bool), v60 = .bool x60_5 ∧ Aside0 (standstilllaw05_BlockParts.j0 kq a1 a2 l3 a4 x60_5 a0_0 a0_1 l0_2 = some r) ∧ Aside0 (kq ≤ k) ∧ Aside0 (wc.heap[gb216]? = some (.cells #[.int .i64 a0_0, .int .i64 a0_1, (.slice A0_2 l0_2.length c0_2)] 24 (0, 0))) ∧ Aside0 (Below w.heap.size w wc))
 case first => as_aux_lemma =>
  have H := HC6.out
  clear HC6
  replace H := Option.bind_eq_some_iff.mp H
  obtain ⟨t217, A80, H⟩ := H
  replace H : (if t217 = true then (standstilllaw05_BlockParts.j0 k a1 a2 l3 a4 true a0_0 a0_1 l0_2) else ((standstillref01_Valid.f k a0_0 a0_1 l0_2).bind fun t218 => (if t218 = true then (if a1 < 0 then (standstilllaw05_BlockParts.j0 k a1 a2 l3 a4 true a0_0 a0_1 l0_2) else (if a1 ≥ a0_0 then (standstilllaw05_BlockParts.j0 k a1 a2 l3 a4 true a0_0 a0_1 l0_2) else ((standstillref05_Word.f k a0_0 a0_1 l0_2 l3).bind fun t219 => (if t219 = true then (if (l3.length : Int) < 2 then (standstilllaw05_BlockParts.j0 k a1 a2 l3 a4 true a0_0 a0_1 l0_2) else (if a2 < 0 then (standstilllaw05_BlockParts.j0 k a1 a2 l3 a4 true a0_0 a0_1 l0_2) else (standstilllaw05_BlockParts.j0 k a1 a2 l3 a4 (decide (a2 ≥ (l3.length : Int))) a0_0 a0_1 l0_2))) else (standstilllaw05_BlockParts.j0 k a1 a2 l3 a4 true a0_0 a0_1 l0_2))))) else (standstilllaw05_BlockParts.j0 k a1 a2 l3 a4 true a0_0 a0_1 l0_2)))) = some r := H
  have A8 := Aside0.mk A80
  clear A80
  by_cases c9 : t217 = true
  ·subst c9
   have H1 : (standstilllaw05_BlockParts.j0 k a1 a2 l3 a4 true a0_0 a0_1 l0_2) = some r := by rw [if_pos rfl] at H; exact H
   clear H
   have H := H1
   clear H1
   have H' := Aside0.mk H
   clear H
   have hcz10_0 : w7.cell? ⟨gb216, 0, none⟩ = some (.int .i64 a0_0) := (blk_cell BK216.out 0).trans rfl
   have hcz10_1 : w7.cell? ⟨gb216, 1, none⟩ = some (.int .i64 a0_1) := (blk_cell BK216.out 1).trans rfl
   have hcz10_2 : w7.cell? ⟨gb216, 2, none⟩ = some (.slice A0_2 l0_2.length c0_2) := (blk_cell BK216.out 2).trans rfl
   have hfz10_0 := blk_frozen BK216.out 0
   have hfz10_1 := blk_frozen BK216.out 1
   have hfz10_2 := blk_frozen BK216.out 2
   go_wp2_with (first | ((with_reducible refine gate_callee (f := 7) rfl ?_); refine goesL_ (some 24) rfl rfl Try.func7 (by kernel_rfl) rfl #[.agg #[.int .i64 a0_0, .int .i64 a0_1, .slice A0_2 l0_2.length c0_2]] rfl gl_ ?_; (with_reducible refine (standstilllaw05_wide.calls k a0_0 a0_1 _ _ l0_2 true _ ?side1 ?side2 A8.out).mono ?_); (case side1 => exact ck_ (Kd.C_below HR0_2.out HB.out)); (case side2 => exact HC0_2.out); rintro e w11 ⟨rfl, hb⟩; refine ⟨_, rfl, ?_⟩; have n0_ := A_ (blk_below (pk_ BK216.out) hb); have n1_ := A_ (below_step (bk_ HB.out) hb); clear BK216 HB; have BK216 := n0_; have HB := n1_; clear n0_ n1_; (try clear hb); (try clear hb2); (try clear hk); (try clear hi)))
   go_meet
   case rel => exact ⟨_, (true), jr_, H', ⟨by first | omega | exact Nat.le_refl _⟩, ⟨pk_ BK216.out⟩, ⟨bk_ HB.out⟩⟩
  ·replace c9 := Bool.eq_false_iff.mpr c9
   subst c9
   have H1 : ((standstillref01_Valid.f k a0_0 a0_1 l0_2).bind fun t218 => (if t218 = true then (if a1 < 0 then (standstilllaw05_BlockParts.j0 k a1 a2 l3 a4 true a0_0 a0_1 l0_2) else (if a1 ≥ a0_0 then (standstilllaw05_BlockParts.j0 k a1 a2 l3 a4 true a0_0 a0_1 l0_2) else ((standstillref05_Word.f k a0_0 a0_1 l0_2 l3).bind fun t219 => (if t219 = true then (if (l3.length : Int) < 2 then (standstilllaw05_BlockParts.j0 k a1 a2 l3 a4 true a0_0 a0_1 l0_2) else (if a2 < 0 then (standstilllaw05_BlockParts.j0 k a1 a2 l3 a4 true a0_0 a0_1 l0_2) else (standstilllaw05_BlockParts.j0 k a1 a2 l3 a4 (decide (a2 ≥ (l3.length : Int))) a0_0 a0_1 l0_2))) else (standstilllaw05_BlockParts.j0 k a1 a2 l3 a4 true a0_0 a0_1 l0_2))))) else (standstilllaw05_BlockParts.j0 k a1 a2 l3 a4 true a0_0 a0_1 l0_2))) = some r := by rw [if_neg (show ¬ (false = true) by decide)] at H; exact H
   clear H
   have H := H1
   clear H1
   replace H := Option.bind_eq_some_iff.mp H
   obtain ⟨t218, A120, H⟩ := H
   replace H : (if t218 = true then (if a1 < 0 then (standstilllaw05_BlockParts.j0 k a1 a2 l3 a4 true a0_0 a0_1 l0_2) else (if a1 ≥ a0_0 then (standstilllaw05_BlockParts.j0 k a1 a2 l3 a4 true a0_0 a0_1 l0_2) else ((standstillref05_Word.f k a0_0 a0_1 l0_2 l3).bind fun t219 => (if t219 = true then (if (l3.length : Int) < 2 then (standstilllaw05_BlockParts.j0 k a1 a2 l3 a4 true a0_0 a0_1 l0_2) else (if a2 < 0 then (standstilllaw05_BlockParts.j0 k a1 a2 l3 a4 true a0_0 a0_1 l0_2) else (standstilllaw05_BlockParts.j0 k a1 a2 l3 a4 (decide (a2 ≥ (l3.length : Int))) a0_0 a0_1 l0_2))) else (standstilllaw05_BlockParts.j0 k a1 a2 l3 a4 true a0_0 a0_1 l0_2))))) else (standstilllaw05_BlockParts.j0 k a1 a2 l3 a4 true a0_0 a0_1 l0_2)) = some r := H
   have A12 := Aside0.mk A120
   clear A120
   by_cases c13 : t218 = true
   ·subst c13
    have H1 : (if a1 < 0 then (standstilllaw05_BlockParts.j0 k a1 a2 l3 a4 true a0_0 a0_1 l0_2) else (if a1 ≥ a0_0 then (standstilllaw05_BlockParts.j0 k a1 a2 l3 a4 true a0_0 a0_1 l0_2) else ((standstillref05_Word.f k a0_0 a0_1 l0_2 l3).bind fun t219 => (if t219 = true then (if (l3.length : Int) < 2 then (standstilllaw05_BlockParts.j0 k a1 a2 l3 a4 true a0_0 a0_1 l0_2) else (if a2 < 0 then (standstilllaw05_BlockParts.j0 k a1 a2 l3 a4 true a0_0 a0_1 l0_2) else (standstilllaw05_BlockParts.j0 k a1 a2 l3 a4 (decide (a2 ≥ (l3.length : Int))) a0_0 a0_1 l0_2))) else (standstilllaw05_BlockParts.j0 k a1 a2 l3 a4 true a0_0 a0_1 l0_2))))) = some r := by rw [if_pos rfl] at H; exact H
    clear H
    have H := H1
    clear H1
    by_cases c14 : a1 < 0
    ·rw [if_pos c14] at H
     have c14b0 : decide (a1 < 0) = true := decide_eq_true c14
     clear c14
     (first | rw [c14b0] | (simp only [i64_w, i32_w]; rw [c14b0]) | skip)
     have H' := Aside0.mk H
     clear H
     have hcz15_0 : w7.cell? ⟨gb216, 0, none⟩ = some (.int .i64 a0_0) := (blk_cell BK216.out 0).trans rfl
     have hcz15_1 : w7.cell? ⟨gb216, 1, none⟩ = some (.int .i64 a0_1) := (blk_cell BK216.out 1).trans rfl
     have hcz15_2 : w7.cell? ⟨gb216, 2, none⟩ = some (.slice A0_2 l0_2.length c0_2) := (blk_cell BK216.out 2).trans rfl
     have hfz15_0 := blk_frozen BK216.out 0
     have hfz15_1 := blk_frozen BK216.out 1
     have hfz15_2 := blk_frozen BK216.out 2
     go_wp2_with (first | ((with_reducible refine gate_callee (f := 7) rfl ?_); refine goesL_ (some 24) rfl rfl Try.func7 (by kernel_rfl) rfl #[.agg #[.int .i64 a0_0, .int .i64 a0_1, .slice A0_2 l0_2.length c0_2]] rfl gl_ ?_; (with_reducible refine (standstilllaw05_wide.calls k a0_0 a0_1 _ _ l0_2 false _ ?side1 ?side2 A8.out).mono ?_); (case side1 => exact ck_ (Kd.C_below HR0_2.out HB.out)); (case side2 => exact HC0_2.out); rintro e w16 ⟨rfl, hb⟩; refine ⟨_, rfl, ?_⟩; have n0_ := A_ (blk_below (pk_ BK216.out) hb); have n1_ := A_ (below_step (bk_ HB.out) hb); clear BK216 HB; have BK216 := n0_; have HB := n1_; clear n0_ n1_; (try clear hb); (try clear hb2); (try clear hk); (try clear hi); have hcz17_0 : w16.cell? ⟨gb216, 0, none⟩ = some (.int .i64 a0_0) := (blk_cell BK216.out 0).trans rfl; have hcz17_1 : w16.cell? ⟨gb216, 1, none⟩ = some (.int .i64 a0_1) := (blk_cell BK216.out 1).trans rfl; have hcz17_2 : w16.cell? ⟨gb216, 2, none⟩ = some (.slice A0_2 l0_2.length c0_2) := (blk_cell BK216.out 2).trans rfl; have hfz17_0 := blk_frozen BK216.out 0; have hfz17_1 := blk_frozen BK216.out 1; have hfz17_2 := blk_frozen BK216.out 2) | (go_at_call 10; (with_reducible refine (standstillref01_Valid.calls k a0_0 a0_1 _ _ l0_2 true _ ?side1 ?side2 A12.out).mono ?_); (case side1 => exact ck_ (Kd.C_below HR0_2.out HB.out)); (case side2 => exact HC0_2.out); rintro e w18 ⟨rfl, hb⟩; have n0_ := A_ (blk_below (pk_ BK216.out) hb); have n1_ := A_ (below_step (bk_ HB.out) hb); clear BK216 HB; have BK216 := n0_; have HB := n1_; clear n0_ n1_; (try clear hb); (try clear hb2); (try clear hk); (try clear hi)))
     go_meet
     case rel => exact ⟨_, (true), jr_, H', ⟨by first | omega | exact Nat.le_refl _⟩, ⟨pk_ BK216.out⟩, ⟨bk_ HB.out⟩⟩
    ·rw [if_neg c14] at H
     have c14b0 : decide (a1 < 0) = false := decide_eq_false c14
     clear c14
     (first | rw [c14b0] | (simp only [i64_w, i32_w]; rw [c14b0]) | skip)
     by_cases c19 : a1 ≥ a0_0
     ·rw [if_pos c19] at H
      have c19b0 : decide (a0_0 ≤ a1) = true := decide_eq_true c19
      clear c19
      have H' := Aside0.mk H
      clear H
      have hcz20_0 : w7.cell? ⟨gb216, 0, none⟩ = some (.int .i64 a0_0) := (blk_cell BK216.out 0).trans rfl
      have hcz20_1 : w7.cell? ⟨gb216, 1, none⟩ = some (.int .i64 a0_1) := (blk_cell BK216.out 1).trans rfl
      have hcz20_2 : w7.cell? ⟨gb216, 2, none⟩ = some (.slice A0_2 l0_2.length c0_2) := (blk_cell BK216.out 2).trans rfl
      have hfz20_0 := blk_frozen BK216.out 0
      have hfz20_1 := blk_frozen BK216.out 1
      have hfz20_2 := blk_frozen BK216.out 2
      go_wp2_with (first | ((with_reducible refine gate_callee (f := 7) rfl ?_); refine goesL_ (some 24) rfl rfl Try.func7 (by kernel_rfl) rfl #[.agg #[.int .i64 a0_0, .int .i64 a0_1, .slice A0_2 l0_2.length c0_2]] rfl gl_ ?_; (with_reducible refine (standstilllaw05_wide.calls k a0_0 a0_1 _ _ l0_2 false _ ?side1 ?side2 A8.out).mono ?_); (case side1 => exact ck_ (Kd.C_below HR0_2.out HB.out)); (case side2 => exact HC0_2.out); rintro e w21 ⟨rfl, hb⟩; refine ⟨_, rfl, ?_⟩; have n0_ := A_ (blk_below (pk_ BK216.out) hb); have n1_ := A_ (below_step (bk_ HB.out) hb); clear BK216 HB; have BK216 := n0_; have HB := n1_; clear n0_ n1_; (try clear hb); (try clear hb2); (try clear hk); (try clear hi); have hcz22_0 : w21.cell? ⟨gb216, 0, none⟩ = some (.int .i64 a0_0) := (blk_cell BK216.out 0).trans rfl; have hcz22_1 : w21.cell? ⟨gb216, 1, none⟩ = some (.int .i64 a0_1) := (blk_cell BK216.out 1).trans rfl; have hcz22_2 : w21.cell? ⟨gb216, 2, none⟩ = some (.slice A0_2 l0_2.length c0_2) := (blk_cell BK216.out 2).trans rfl; have hfz22_0 := blk_frozen BK216.out 0; have hfz22_1 := blk_frozen BK216.out 1; have hfz22_2 := blk_frozen BK216.out 2) | (go_at_call 10; (with_reducible refine (standstillref01_Valid.calls k a0_0 a0_1 _ _ l0_2 true _ ?side1 ?side2 A12.out).mono ?_); (case side1 => exact ck_ (Kd.C_below HR0_2.out HB.out)); (case side2 => exact HC0_2.out); rintro e w23 ⟨rfl, hb⟩; have n0_ := A_ (blk_below (pk_ BK216.out) hb); have n1_ := A_ (below_step (bk_ HB.out) hb); clear BK216 HB; have BK216 := n0_; have HB := n1_; clear n0_ n1_; (try clear hb); (try clear hb2); (try clear hk); (try clear hi); have hcz24_0 : w23.cell? ⟨gb216, 0, none⟩ = some (.int .i64 a0_0) := (blk_cell BK216.out 0).trans rfl; have hcz24_1 : w23.cell? ⟨gb216, 1, none⟩ = some (.int .i64 a0_1) := (blk_cell BK216.out 1).trans rfl; have hcz24_2 : w23.cell? ⟨gb216, 2, none⟩ = some (.slice A0_2 l0_2.length c0_2) := (blk_cell BK216.out 2).trans rfl; have hfz24_0 := blk_frozen BK216.out 0; have hfz24_1 := blk_frozen BK216.out 1; have hfz24_2 := blk_frozen BK216.out 2))
      go_meet
      case rel => exact ⟨_, (true), jr_, H', ⟨by first | omega | exact Nat.le_refl _⟩, ⟨pk_ BK216.out⟩, ⟨bk_ HB.out⟩⟩
     ·rw [if_neg c19] at H
      have c19b0 : decide (a0_0 ≤ a1) = false := decide_eq_false c19
      clear c19
      replace H := Option.bind_eq_some_iff.mp H
      obtain ⟨t219, A250, H⟩ := H
      replace H : (if t219 = true then (if (l3.length : Int) < 2 then (standstilllaw05_BlockParts.j0 k a1 a2 l3 a4 true a0_0 a0_1 l0_2) else (if a2 < 0 then (standstilllaw05_BlockParts.j0 k a1 a2 l3 a4 true a0_0 a0_1 l0_2) else (standstilllaw05_BlockParts.j0 k a1 a2 l3 a4 (decide (a2 ≥ (l3.length : Int))) a0_0 a0_1 l0_2))) else (standstilllaw05_BlockParts.j0 k a1 a2 l3 a4 true a0_0 a0_1 l0_2)) = some r := H
      have A25 := Aside0.mk A250
      clear A250
      by_cases c26 : t219 = true
      ·subst c26
       have H1 : (if (l3.length : Int) < 2 then (standstilllaw05_BlockParts.j0 k a1 a2 l3 a4 true a0_0 a0_1 l0_2) else (if a2 < 0 then (standstilllaw05_BlockParts.j0 k a1 a2 l3 a4 true a0_0 a0_1 l0_2) else (standstilllaw05_BlockParts.j0 k a1 a2 l3 a4 (decide (a2 ≥ (l3.length : Int))) a0_0 a0_1 l0_2))) = some r := by rw [if_pos rfl] at H; exact H
       clear H
       have H := H1
       clear H1
       by_cases c27 : (l3.length : Int) < 2
       ·rw [if_pos c27] at H
        have c27b0 : decide ((l3.length : Int) < 2) = true := decide_eq_true c27
        have c27b1 : decide (l3.length < 2) = true := decide_eq_true (by omega)
        clear c27
        have H' := Aside0.mk H
        clear H
        have hcz28_0 : w7.cell? ⟨gb216, 0, none⟩ = some (.int .i64 a0_0) := (blk_cell BK216.out 0).trans rfl
        have hcz28_1 : w7.cell? ⟨gb216, 1, none⟩ = some (.int .i64 a0_1) := (blk_cell BK216.out 1).trans rfl
        have hcz28_2 : w7.cell? ⟨gb216, 2, none⟩ = some (.slice A0_2 l0_2.length c0_2) := (blk_cell BK216.out 2).trans rfl
        have hfz28_0 := blk_frozen BK216.out 0
        have hfz28_1 := blk_frozen BK216.out 1
        have hfz28_2 := blk_frozen BK216.out 2
        go_wp2_with (first | ((with_reducible refine gate_callee (f := 7) rfl ?_); refine goesL_ (some 24) rfl rfl Try.func7 (by kernel_rfl) rfl #[.agg #[.int .i64 a0_0, .int .i64 a0_1, .slice A0_2 l0_2.length c0_2]] rfl gl_ ?_; (with_reducible refine (standstilllaw05_wide.calls k a0_0 a0_1 _ _ l0_2 false _ ?side1 ?side2 A8.out).mono ?_); (case side1 => exact ck_ (Kd.C_below HR0_2.out HB.out)); (case side2 => exact HC0_2.out); rintro e w29 ⟨rfl, hb⟩; refine ⟨_, rfl, ?_⟩; have n0_ := A_ (blk_below (pk_ BK216.out) hb); have n1_ := A_ (below_step (bk_ HB.out) hb); clear BK216 HB; have BK216 := n0_; have HB := n1_; clear n0_ n1_; (try clear hb); (try clear hb2); (try clear hk); (try clear hi); have hcz30_0 : w29.cell? ⟨gb216, 0, none⟩ = some (.int .i64 a0_0) := (blk_cell BK216.out 0).trans rfl; have hcz30_1 : w29.cell? ⟨gb216, 1, none⟩ = some (.int .i64 a0_1) := (blk_cell BK216.out 1).trans rfl; have hcz30_2 : w29.cell? ⟨gb216, 2, none⟩ = some (.slice A0_2 l0_2.length c0_2) := (blk_cell BK216.out 2).trans rfl; have hfz30_0 := blk_frozen BK216.out 0; have hfz30_1 := blk_frozen BK216.out 1; have hfz30_2 := blk_frozen BK216.out 2) | (go_at_call 10; (with_reducible refine (standstillref01_Valid.calls k a0_0 a0_1 _ _ l0_2 true _ ?side1 ?side2 A12.out).mono ?_); (case side1 => exact ck_ (Kd.C_below HR0_2.out HB.out)); (case side2 => exact HC0_2.out); rintro e w31 ⟨rfl, hb⟩; have n0_ := A_ (blk_below (pk_ BK216.out) hb); have n1_ := A_ (below_step (bk_ HB.out) hb); clear BK216 HB; have BK216 := n0_; have HB := n1_; clear n0_ n1_; (try clear hb); (try clear hb2); (try clear hk); (try clear hi); have hcz32_0 : w31.cell? ⟨gb216, 0, none⟩ = some (.int .i64 a0_0) := (blk_cell BK216.out 0).trans rfl; have hcz32_1 : w31.cell? ⟨gb216, 1, none⟩ = some (.int .i64 a0_1) := (blk_cell BK216.out 1).trans rfl; have hcz32_2 : w31.cell? ⟨gb216, 2, none⟩ = some (.slice A0_2 l0_2.length c0_2) := (blk_cell BK216.out 2).trans rfl; have hfz32_0 := blk_frozen BK216.out 0; have hfz32_1 := blk_frozen BK216.out 1; have hfz32_2 := blk_frozen BK216.out 2) | (go_at_call 12; (with_reducible refine (standstillref05_Word.calls k a0_0 a0_1 _ _ l0_2 _ _ l3 true _ ?side1 ?side2 ?side3 ?side4 A25.out).mono ?_); (case side1 => exact ck_ (Kd.C_below HR0_2.out HB.out)); (case side2 => exact HC0_2.out); (case side3 => exact ck_ (Kd.C_below HR3.out HB.out)); (case side4 => exact HC3.out); rintro e w33 ⟨rfl, hb⟩; have n0_ := A_ (blk_below (pk_ BK216.out) hb); have n1_ := A_ (below_step (bk_ HB.out) hb); clear BK216 HB; have BK216 := n0_; have HB := n1_; clear n0_ n1_; (try clear hb); (try clear hb2); (try clear hk); (try clear hi)))
        go_meet
        case rel => exact ⟨_, (true), jr_, H', ⟨by first | omega | exact Nat.le_refl _⟩, ⟨pk_ BK216.out⟩, ⟨bk_ HB.out⟩⟩
       ·rw [if_neg c27] at H
        have c27b0 : decide ((l3.length : Int) < 2) = false := decide_eq_false c27
        have c27b1 : decide (l3.length < 2) = false := decide_eq_false (by omega)
        clear c27
        by_cases c34 : a2 < 0
        ·rw [if_pos c34] at H
         have c34b0 : decide (a2 < 0) = true := decide_eq_true c34
         clear c34
         have H' := Aside0.mk H
         clear H
         have hcz35_0 : w7.cell? ⟨gb216, 0, none⟩ = some (.int .i64 a0_0) := (blk_cell BK216.out 0).trans rfl
         have hcz35_1 : w7.cell? ⟨gb216, 1, none⟩ = some (.int .i64 a0_1) := (blk_cell BK216.out 1).trans rfl
         have hcz35_2 : w7.cell? ⟨gb216, 2, none⟩ = some (.slice A0_2 l0_2.length c0_2) := (blk_cell BK216.out 2).trans rfl
         have hfz35_0 := blk_frozen BK216.out 0
         have hfz35_1 := blk_frozen BK216.out 1
         have hfz35_2 := blk_frozen BK216.out 2
         go_wp2_with (first | ((with_reducible refine gate_callee (f := 7) rfl ?_); refine goesL_ (some 24) rfl rfl Try.func7 (by kernel_rfl) rfl #[.agg #[.int .i64 a0_0, .int .i64 a0_1, .slice A0_2 l0_2.length c0_2]] rfl gl_ ?_; (with_reducible refine (standstilllaw05_wide.calls k a0_0 a0_1 _ _ l0_2 false _ ?side1 ?side2 A8.out).mono ?_); (case side1 => exact ck_ (Kd.C_below HR0_2.out HB.out)); (case side2 => exact HC0_2.out); rintro e w36 ⟨rfl, hb⟩; refine ⟨_, rfl, ?_⟩; have n0_ := A_ (blk_below (pk_ BK216.out) hb); have n1_ := A_ (below_step (bk_ HB.out) hb); clear BK216 HB; have BK216 := n0_; have HB := n1_; clear n0_ n1_; (try clear hb); (try clear hb2); (try clear hk); (try clear hi); have hcz37_0 : w36.cell? ⟨gb216, 0, none⟩ = some (.int .i64 a0_0) := (blk_cell BK216.out 0).trans rfl; have hcz37_1 : w36.cell? ⟨gb216, 1, none⟩ = some (.int .i64 a0_1) := (blk_cell BK216.out 1).trans rfl; have hcz37_2 : w36.cell? ⟨gb216, 2, none⟩ = some (.slice A0_2 l0_2.length c0_2) := (blk_cell BK216.out 2).trans rfl; have hfz37_0 := blk_frozen BK216.out 0; have hfz37_1 := blk_frozen BK216.out 1; have hfz37_2 := blk_frozen BK216.out 2) | (go_at_call 10; (with_reducible refine (standstillref01_Valid.calls k a0_0 a0_1 _ _ l0_2 true _ ?side1 ?side2 A12.out).mono ?_); (case side1 => exact ck_ (Kd.C_below HR0_2.out HB.out)); (case side2 => exact HC0_2.out); rintro e w38 ⟨rfl, hb⟩; have n0_ := A_ (blk_below (pk_ BK216.out) hb); have n1_ := A_ (below_step (bk_ HB.out) hb); clear BK216 HB; have BK216 := n0_; have HB := n1_; clear n0_ n1_; (try clear hb); (try clear hb2); (try clear hk); (try clear hi); have hcz39_0 : w38.cell? ⟨gb216, 0, none⟩ = some (.int .i64 a0_0) := (blk_cell BK216.out 0).trans rfl; have hcz39_1 : w38.cell? ⟨gb216, 1, none⟩ = some (.int .i64 a0_1) := (blk_cell BK216.out 1).trans rfl; have hcz39_2 : w38.cell? ⟨gb216, 2, none⟩ = some (.slice A0_2 l0_2.length c0_2) := (blk_cell BK216.out 2).trans rfl; have hfz39_0 := blk_frozen BK216.out 0; have hfz39_1 := blk_frozen BK216.out 1; have hfz39_2 := blk_frozen BK216.out 2) | (go_at_call 12; (with_reducible refine (standstillref05_Word.calls k a0_0 a0_1 _ _ l0_2 _ _ l3 true _ ?side1 ?side2 ?side3 ?side4 A25.out).mono ?_); (case side1 => exact ck_ (Kd.C_below HR0_2.out HB.out)); (case side2 => exact HC0_2.out); (case side3 => exact ck_ (Kd.C_below HR3.out HB.out)); (case side4 => exact HC3.out); rintro e w40 ⟨rfl, hb⟩; have n0_ := A_ (blk_below (pk_ BK216.out) hb); have n1_ := A_ (below_step (bk_ HB.out) hb); clear BK216 HB; have BK216 := n0_; have HB := n1_; clear n0_ n1_; (try clear hb); (try clear hb2); (try clear hk); (try clear hi)))
         go_meet
         case rel => exact ⟨_, (true), jr_, H', ⟨by first | omega | exact Nat.le_refl _⟩, ⟨pk_ BK216.out⟩, ⟨bk_ HB.out⟩⟩
        ·rw [if_neg c34] at H
         have c34b0 : decide (a2 < 0) = false := decide_eq_false c34
         clear c34
         have H' := Aside0.mk H
         clear H
         have hcz41_0 : w7.cell? ⟨gb216, 0, none⟩ = some (.int .i64 a0_0) := (blk_cell BK216.out 0).trans rfl
         have hcz41_1 : w7.cell? ⟨gb216, 1, none⟩ = some (.int .i64 a0_1) := (blk_cell BK216.out 1).trans rfl
         have hcz41_2 : w7.cell? ⟨gb216, 2, none⟩ = some (.slice A0_2 l0_2.length c0_2) := (blk_cell BK216.out 2).trans rfl
         have hfz41_0 := blk_frozen BK216.out 0
         have hfz41_1 := blk_frozen BK216.out 1
         have hfz41_2 := blk_frozen BK216.out 2
         go_wp2_with (first | ((with_reducible refine gate_callee (f := 7) rfl ?_); refine goesL_ (some 24) rfl rfl Try.func7 (by kernel_rfl) rfl #[.agg #[.int .i64 a0_0, .int .i64 a0_1, .slice A0_2 l0_2.length c0_2]] rfl gl_ ?_; (with_reducible refine (standstilllaw05_wide.calls k a0_0 a0_1 _ _ l0_2 false _ ?side1 ?side2 A8.out).mono ?_); (case side1 => exact ck_ (Kd.C_below HR0_2.out HB.out)); (case side2 => exact HC0_2.out); rintro e w42 ⟨rfl, hb⟩; refine ⟨_, rfl, ?_⟩; have n0_ := A_ (blk_below (pk_ BK216.out) hb); have n1_ := A_ (below_step (bk_ HB.out) hb); clear BK216 HB; have BK216 := n0_; have HB := n1_; clear n0_ n1_; (try clear hb); (try clear hb2); (try clear hk); (try clear hi); have hcz43_0 : w42.cell? ⟨gb216, 0, none⟩ = some (.int .i64 a0_0) := (blk_cell BK216.out 0).trans rfl; have hcz43_1 : w42.cell? ⟨gb216, 1, none⟩ = some (.int .i64 a0_1) := (blk_cell BK216.out 1).trans rfl; have hcz43_2 : w42.cell? ⟨gb216, 2, none⟩ = some (.slice A0_2 l0_2.length c0_2) := (blk_cell BK216.out 2).trans rfl; have hfz43_0 := blk_frozen BK216.out 0; have hfz43_1 := blk_frozen BK216.out 1; have hfz43_2 := blk_frozen BK216.out 2) | (go_at_call 10; (with_reducible refine (standstillref01_Valid.calls k a0_0 a0_1 _ _ l0_2 true _ ?side1 ?side2 A12.out).mono ?_); (case side1 => exact ck_ (Kd.C_below HR0_2.out HB.out)); (case side2 => exact HC0_2.out); rintro e w44 ⟨rfl, hb⟩; have n0_ := A_ (blk_below (pk_ BK216.out) hb); have n1_ := A_ (below_step (bk_ HB.out) hb); clear BK216 HB; have BK216 := n0_; have HB := n1_; clear n0_ n1_; (try clear hb); (try clear hb2); (try clear hk); (try clear hi); have hcz45_0 : w44.cell? ⟨gb216, 0, none⟩ = some (.int .i64 a0_0) := (blk_cell BK216.out 0).trans rfl; have hcz45_1 : w44.cell? ⟨gb216, 1, none⟩ = some (.int .i64 a0_1) := (blk_cell BK216.out 1).trans rfl; have hcz45_2 : w44.cell? ⟨gb216, 2, none⟩ = some (.slice A0_2 l0_2.length c0_2) := (blk_cell BK216.out 2).trans rfl; have hfz45_0 := blk_frozen BK216.out 0; have hfz45_1 := blk_frozen BK216.out 1; have hfz45_2 := blk_frozen BK216.out 2) | (go_at_call 12; (with_reducible refine (standstillref05_Word.calls k a0_0 a0_1 _ _ l0_2 _ _ l3 true _ ?side1 ?side2 ?side3 ?side4 A25.out).mono ?_); (case side1 => exact ck_ (Kd.C_below HR0_2.out HB.out)); (case side2 => exact HC0_2.out); (case side3 => exact ck_ (Kd.C_below HR3.out HB.out)); (case side4 => exact HC3.out); rintro e w46 ⟨rfl, hb⟩; have n0_ := A_ (blk_below (pk_ BK216.out) hb); have n1_ := A_ (below_step (bk_ HB.out) hb); clear BK216 HB; have BK216 := n0_; have HB := n1_; clear n0_ n1_; (try clear hb); (try clear hb2); (try clear hk); (try clear hi)))
         go_meet
         case rel => exact ⟨_, (decide (a2 ≥ (l3.length : Int))), jr_, H', ⟨by first | omega | exact Nat.le_refl _⟩, ⟨pk_ BK216.out⟩, ⟨bk_ HB.out⟩⟩
      ·replace c26 := Bool.eq_false_iff.mpr c26
       subst c26
       have H1 : (standstilllaw05_BlockParts.j0 k a1 a2 l3 a4 true a0_0 a0_1 l0_2) = some r := by rw [if_neg (show ¬ (false = true) by decide)] at H; exact H
       clear H
       have H := H1
       clear H1
       have H' := Aside0.mk H
       clear H
       have hcz47_0 : w7.cell? ⟨gb216, 0, none⟩ = some (.int .i64 a0_0) := (blk_cell BK216.out 0).trans rfl
       have hcz47_1 : w7.cell? ⟨gb216, 1, none⟩ = some (.int .i64 a0_1) := (blk_cell BK216.out 1).trans rfl
       have hcz47_2 : w7.cell? ⟨gb216, 2, none⟩ = some (.slice A0_2 l0_2.length c0_2) := (blk_cell BK216.out 2).trans rfl
       have hfz47_0 := blk_frozen BK216.out 0
       have hfz47_1 := blk_frozen BK216.out 1
       have hfz47_2 := blk_frozen BK216.out 2
       go_wp2_with (first | ((with_reducible refine gate_callee (f := 7) rfl ?_); refine goesL_ (some 24) rfl rfl Try.func7 (by kernel_rfl) rfl #[.agg #[.int .i64 a0_0, .int .i64 a0_1, .slice A0_2 l0_2.length c0_2]] rfl gl_ ?_; (with_reducible refine (standstilllaw05_wide.calls k a0_0 a0_1 _ _ l0_2 false _ ?side1 ?side2 A8.out).mono ?_); (case side1 => exact ck_ (Kd.C_below HR0_2.out HB.out)); (case side2 => exact HC0_2.out); rintro e w48 ⟨rfl, hb⟩; refine ⟨_, rfl, ?_⟩; have n0_ := A_ (blk_below (pk_ BK216.out) hb); have n1_ := A_ (below_step (bk_ HB.out) hb); clear BK216 HB; have BK216 := n0_; have HB := n1_; clear n0_ n1_; (try clear hb); (try clear hb2); (try clear hk); (try clear hi); have hcz49_0 : w48.cell? ⟨gb216, 0, none⟩ = some (.int .i64 a0_0) := (blk_cell BK216.out 0).trans rfl; have hcz49_1 : w48.cell? ⟨gb216, 1, none⟩ = some (.int .i64 a0_1) := (blk_cell BK216.out 1).trans rfl; have hcz49_2 : w48.cell? ⟨gb216, 2, none⟩ = some (.slice A0_2 l0_2.length c0_2) := (blk_cell BK216.out 2).trans rfl; have hfz49_0 := blk_frozen BK216.out 0; have hfz49_1 := blk_frozen BK216.out 1; have hfz49_2 := blk_frozen BK216.out 2) | (go_at_call 10; (with_reducible refine (standstillref01_Valid.calls k a0_0 a0_1 _ _ l0_2 true _ ?side1 ?side2 A12.out).mono ?_); (case side1 => exact ck_ (Kd.C_below HR0_2.out HB.out)); (case side2 => exact HC0_2.out); rintro e w50 ⟨rfl, hb⟩; have n0_ := A_ (blk_below (pk_ BK216.out) hb); have n1_ := A_ (below_step (bk_ HB.out) hb); clear BK216 HB; have BK216 := n0_; have HB := n1_; clear n0_ n1_; (try clear hb); (try clear hb2); (try clear hk); (try clear hi); have hcz51_0 : w50.cell? ⟨gb216, 0, none⟩ = some (.int .i64 a0_0) := (blk_cell BK216.out 0).trans rfl; have hcz51_1 : w50.cell? ⟨gb216, 1, none⟩ = some (.int .i64 a0_1) := (blk_cell BK216.out 1).trans rfl; have hcz51_2 : w50.cell? ⟨gb216, 2, none⟩ = some (.slice A0_2 l0_2.length c0_2) := (blk_cell BK216.out 2).trans rfl; have hfz51_0 := blk_frozen BK216.out 0; have hfz51_1 := blk_frozen BK216.out 1; have hfz51_2 := blk_frozen BK216.out 2) | (go_at_call 12; (with_reducible refine (standstillref05_Word.calls k a0_0 a0_1 _ _ l0_2 _ _ l3 false _ ?side1 ?side2 ?side3 ?side4 A25.out).mono ?_); (case side1 => exact ck_ (Kd.C_below HR0_2.out HB.out)); (case side2 => exact HC0_2.out); (case side3 => exact ck_ (Kd.C_below HR3.out HB.out)); (case side4 => exact HC3.out); rintro e w52 ⟨rfl, hb⟩; have n0_ := A_ (blk_below (pk_ BK216.out) hb); have n1_ := A_ (below_step (bk_ HB.out) hb); clear BK216 HB; have BK216 := n0_; have HB := n1_; clear n0_ n1_; (try clear hb); (try clear hb2); (try clear hk); (try clear hi)))
       go_meet
       case rel => exact ⟨_, (true), jr_, H', ⟨by first | omega | exact Nat.le_refl _⟩, ⟨pk_ BK216.out⟩, ⟨bk_ HB.out⟩⟩
   ·replace c13 := Bool.eq_false_iff.mpr c13
    subst c13
    have H1 : (standstilllaw05_BlockParts.j0 k a1 a2 l3 a4 true a0_0 a0_1 l0_2) = some r := by rw [if_neg (show ¬ (false = true) by decide)] at H; exact H
    clear H
    have H := H1
    clear H1
    have H' := Aside0.mk H
    clear H
    have hcz53_0 : w7.cell? ⟨gb216, 0, none⟩ = some (.int .i64 a0_0) := (blk_cell BK216.out 0).trans rfl
    have hcz53_1 : w7.cell? ⟨gb216, 1, none⟩ = some (.int .i64 a0_1) := (blk_cell BK216.out 1).trans rfl
    have hcz53_2 : w7.cell? ⟨gb216, 2, none⟩ = some (.slice A0_2 l0_2.length c0_2) := (blk_cell BK216.out 2).trans rfl
    have hfz53_0 := blk_frozen BK216.out 0
    have hfz53_1 := blk_frozen BK216.out 1
    have hfz53_2 := blk_frozen BK216.out 2
    go_wp2_with (first | ((with_reducible refine gate_callee (f := 7) rfl ?_); refine goesL_ (some 24) rfl rfl Try.func7 (by kernel_rfl) rfl #[.agg #[.int .i64 a0_0, .int .i64 a0_1, .slice A0_2 l0_2.length c0_2]] rfl gl_ ?_; (with_reducible refine (standstilllaw05_wide.calls k a0_0 a0_1 _ _ l0_2 false _ ?side1 ?side2 A8.out).mono ?_); (case side1 => exact ck_ (Kd.C_below HR0_2.out HB.out)); (case side2 => exact HC0_2.out); rintro e w54 ⟨rfl, hb⟩; refine ⟨_, rfl, ?_⟩; have n0_ := A_ (blk_below (pk_ BK216.out) hb); have n1_ := A_ (below_step (bk_ HB.out) hb); clear BK216 HB; have BK216 := n0_; have HB := n1_; clear n0_ n1_; (try clear hb); (try clear hb2); (try clear hk); (try clear hi); have hcz55_0 : w54.cell? ⟨gb216, 0, none⟩ = some (.int .i64 a0_0) := (blk_cell BK216.out 0).trans rfl; have hcz55_1 : w54.cell? ⟨gb216, 1, none⟩ = some (.int .i64 a0_1) := (blk_cell BK216.out 1).trans rfl; have hcz55_2 : w54.cell? ⟨gb216, 2, none⟩ = some (.slice A0_2 l0_2.length c0_2) := (blk_cell BK216.out 2).trans rfl; have hfz55_0 := blk_frozen BK216.out 0; have hfz55_1 := blk_frozen BK216.out 1; have hfz55_2 := blk_frozen BK216.out 2) | (go_at_call 10; (with_reducible refine (standstillref01_Valid.calls k a0_0 a0_1 _ _ l0_2 false _ ?side1 ?side2 A12.out).mono ?_); (case side1 => exact ck_ (Kd.C_below HR0_2.out HB.out)); (case side2 => exact HC0_2.out); rintro e w56 ⟨rfl, hb⟩; have n0_ := A_ (blk_below (pk_ BK216.out) hb); have n1_ := A_ (below_step (bk_ HB.out) hb); clear BK216 HB; have BK216 := n0_; have HB := n1_; clear n0_ n1_; (try clear hb); (try clear hb2); (try clear hk); (try clear hi)))
    go_meet
    case rel => exact ⟨_, (true), jr_, H', ⟨by first | omega | exact Nat.le_refl _⟩, ⟨pk_ BK216.out⟩, ⟨bk_ HB.out⟩⟩
 case rest => as_aux_lemma =>
  clear HC6
  (try clear c3)
  obtain ⟨kq, x60_5, rfl, HA, HJ5, BK216, HB⟩ := hcut
  cases kq with
  | zero => exact absurd HA.out (by simp [standstilllaw05_BlockParts.j0])
  | succ kj5 =>
   have H := HA.out
   clear HA
   simp only [standstilllaw05_BlockParts.j0] at H
   by_cases c57 : x60_5 = true
   ·subst c57
    have H1 : ((standstilllaw05_awake.f kj5).bind fun t220 => (some t220)) = some r := by rw [if_pos rfl] at H; exact H
    clear H
    have H := H1
    clear H1
    replace H := Option.bind_eq_some_iff.mp H
    obtain ⟨t220, A580, H⟩ := H
    replace H : (some t220) = some r := H
    have A58 := Aside0.mk A580
    clear A580
    obtain rfl := Option.some.inj H
    go_wp2_with (first | ((with_reducible refine gate_callee (f := 8) rfl ?_); refine goesL_ (some 61) rfl rfl Try.func8 (by kernel_rfl) rfl #[] rfl gl_ ?_; (with_reducible refine (standstilllaw05_awake.calls kj5  t220 _ A58.out).mono ?_); rintro e w59 ⟨rfl, hb⟩; refine ⟨_, rfl, ?_⟩; have n0_ := A_ (blk_below (pk_ BK216.out) hb); have n1_ := A_ (below_step (bk_ HB.out) hb); clear BK216 HB; have BK216 := n0_; have HB := n1_; clear n0_ n1_; (try clear hb); (try clear hb2); (try clear hk); (try clear hi)))
    go_ret
    exact ⟨er_, bk_ HB.out⟩
   ·replace c57 := Bool.eq_false_iff.mpr c57
    subst c57
    have H1 : (if (wrap64 ((l3.length : Int) - 1)) = 0 then (none) else ((block_Cross.f kj5 a0_0 a0_1 l0_2 a1 a2 l3).bind fun bt221 => (if bt221.2.2.2.2.2 = 0 then ((some (([] : List Int) : List Int)).bind fun y230 => (if y230.length + l3.length < 17592186044416 then (standstilllaw05_BlockParts.l0 kj5 a1 a2 l3 (wrap64 (1 + (Int.tmod (wrap64 (a4)) (wrap64 ((l3.length : Int) - 1))))) (y230 ++ l3) 0 0 a0_0 a0_1 l0_2 bt221.1 bt221.2.1 bt221.2.2.1 bt221.2.2.2.1 bt221.2.2.2.2.1) else (none))) else (none)))) = some r := by rw [if_neg (show ¬ (false = true) by decide)] at H; exact H
    clear H
    have H := H1
    clear H1
    by_cases c60 : (wrap64 ((l3.length : Int) - 1)) = 0
    ·rw [if_pos c60] at H
     exact absurd H (by simp)
    ·rw [if_neg c60] at H
     have c60b0 : ((wrap64 ((l3.length : Int) - 1)) == 0) = false := beq_eq_false_iff_ne.mpr c60
     have c60b1 : ((wrap64 ((l3.length : Int) - 1)) != 0) = true := bne_iff_ne.mpr c60
     replace H := Option.bind_eq_some_iff.mp H
     obtain ⟨⟨t221, t222, t223, t224, t225, t228⟩, A610, H⟩ := H
     replace H : (if t228 = 0 then ((some (([] : List Int) : List Int)).bind fun y230 => (if y230.length + l3.length < 17592186044416 then (standstilllaw05_BlockParts.l0 kj5 a1 a2 l3 (wrap64 (1 + (Int.tmod (wrap64 (a4)) (wrap64 ((l3.length : Int) - 1))))) (y230 ++ l3) 0 0 a0_0 a0_1 l0_2 t221 t222 t223 t224 t225) else (none))) else (none)) = some r := H
     have A61 := Aside0.mk A610
     clear A610
     by_cases c62 : t228 = 0
     ·rw [if_pos c62] at H
      have c62b0 : (t228 == 0) = true := beq_iff_eq.mpr c62
      have c62b1 : (t228 != 0) = false := bne_eq_false_iff_eq.mpr c62
      clear c62
      obtain ⟨y230, hy230⟩ : ∃ y_ : List Int, y_ = (([] : List Int)) := ⟨_, rfl⟩
      replace H : (if y230.length + l3.length < 17592186044416 then (standstilllaw05_BlockParts.l0 kj5 a1 a2 l3 (wrap64 (1 + (Int.tmod (wrap64 (a4)) (wrap64 ((l3.length : Int) - 1))))) (y230 ++ l3) 0 0 a0_0 a0_1 l0_2 t221 t222 t223 t224 t225) else (none)) = some r := by first | (rw [hy230]; with_reducible exact H) | (have H2_ := (Option.bind_some _ _).symm.trans H; rw [hy230]; with_reducible exact H2_) | (have H2_ := (Option.bind_some _ _).symm.trans H; with_reducible exact H2_) | with_reducible exact H | (rw [hy230]; exact H) | exact H
      have Ny230 := Aside0.mk hy230
      clear hy230
      by_cases c63 : y230.length + l3.length < 17592186044416
      ·rw [if_pos c63] at H
       have LMc63 := Aside0.mk c63
       clear c63
       obtain ⟨y233, hy233⟩ : ∃ y_ : List Int, y_ = (y230 ++ l3) := ⟨_, rfl⟩
       replace H : (standstilllaw05_BlockParts.l0 kj5 a1 a2 l3 (wrap64 (1 + (Int.tmod (wrap64 (a4)) (wrap64 ((l3.length : Int) - 1))))) y233 0 0 a0_0 a0_1 l0_2 t221 t222 t223 t224 t225) = some r := by first | (rw [hy233]; with_reducible exact H) | (have H2_ := (Option.bind_some _ _).symm.trans H; rw [hy233]; with_reducible exact H2_) | (have H2_ := (Option.bind_some _ _).symm.trans H; with_reducible exact H2_) | with_reducible exact H | (rw [hy233]; exact H) | exact H
       have Ny233 := Aside0.mk hy233
       clear hy233
       have H' := Aside0.mk H
       clear H
       have hcz64_0 : wc.cell? ⟨gb216, 0, none⟩ = some (.int .i64 a0_0) := (blk_cell BK216.out 0).trans rfl
       have hcz64_1 : wc.cell? ⟨gb216, 1, none⟩ = some (.int .i64 a0_1) := (blk_cell BK216.out 1).trans rfl
       have hcz64_2 : wc.cell? ⟨gb216, 2, none⟩ = some (.slice A0_2 l0_2.length c0_2) := (blk_cell BK216.out 2).trans rfl
       have hfz64_0 := blk_frozen BK216.out 0
       have hfz64_1 := blk_frozen BK216.out 1
       have hfz64_2 := blk_frozen BK216.out 2
       go_wp2_with (first | ((with_reducible refine gate_callee (f := 9) rfl ?_); refine goesL_ (some 74) rfl rfl Try.func9 (by kernel_rfl) rfl #[.agg #[.int .i64 a0_0, .int .i64 a0_1, .slice A0_2 l0_2.length c0_2], .int .i64 a1, .int .i64 a2, .slice A3 l3.length c3] rfl gl_ ?_; (with_reducible refine (block_Cross.calls kj5 a0_0 a0_1 _ _ l0_2 a1 a2 _ _ l3 t221 t222 t223 t224 t225 t228 _ ?side1 ?side2 ?side3 ?side4 A61.out).mono ?_); (case side1 => exact ck_ (Kd.C_below HR0_2.out HB.out)); (case side2 => exact HC0_2.out); (case side3 => exact ck_ (Kd.C_below HR3.out HB.out)); (case side4 => exact HC3.out); rintro e w65 ⟨v226, rfl, ho0, hb⟩; refine ⟨_, rfl, ?_⟩; have n0_ := A_ (Kd.R_lower ho0 (below_size (bk_ HB.out))); have n1_ := A_ (blk_below (pk_ BK216.out) hb); have n2_ := A_ (below_step (bk_ HB.out) hb); clear BK216 HB; have HO227 := n0_; have BK216 := n1_; have HB := n2_; clear n0_ n1_ n2_; (try clear hb); (try clear hb2); (try clear hk); (try clear hi); (try clear ho0)) | ((with_reducible refine gate_dst (N := 12) rfl ?_); (try (refine gate_guard (by rfl) ?_; dsimp only)); refine box_event ?hg (N := 12) ?hd (cs := #[.int .i64 0, .int .i64 0, .int .i64 0, .int .i64 0, .slice none 0 0]) (t := 29) ?hr ?_; (case hd => rfl); (case hg => rfl); (case hr => first | (go_simp; done) | (go_simp; rfl)); intro gb229 hg w66 hbox hb; have n0_ := A_ (Kd.R_below (rk_ HO227.out) hb); have n1_ := A_ (blk_below (pk_ BK216.out) hb); have n2_ := A_ (below_step (bk_ HB.out) hb); have n3_ := A_ (hbox); have n4_ := A_ ((by rw [hg]; exact (below_size (bk_ HB.out)) : w.heap.size ≤ gb229)); have n5_ := A_ ((by rw [hg]; exact (below_size (bk_ HB.out)) : w.heap.size ≤ gb229)); have n6_ := A_ ((by rw [hg]; exact Nat.ne_of_lt (blk_lt (pk_ BK216.out)) : gb216 ≠ gb229)); have n7_ := A_ ((by rw [hg]; exact Nat.ne_of_gt (blk_lt (pk_ BK216.out)) : gb229 ≠ gb216)); clear HO227 BK216 HB; have HO227 := n0_; have BK216 := n1_; have HB := n2_; have BK229 := n3_; have GW229 := n4_; have GE229 := n5_; have NB216_229 := n6_; have NB229_216 := n7_; clear n0_ n1_ n2_ n3_ n4_ n5_ n6_ n7_ hb hbox hg; have hnb67 := NB229_216.out; have hnc67 := NB216_229.out; have hcz68_0 : w66.cell? ⟨gb229, 0, none⟩ = some (.int .i64 0) := (blk_cell BK229.out 0).trans rfl; have hcz68_1 : w66.cell? ⟨gb229, 1, none⟩ = some (.int .i64 0) := (blk_cell BK229.out 1).trans rfl; have hcz68_2 : w66.cell? ⟨gb229, 2, none⟩ = some (.int .i64 0) := (blk_cell BK229.out 2).trans rfl; have hcz68_3 : w66.cell? ⟨gb229, 3, none⟩ = some (.int .i64 0) := (blk_cell BK229.out 3).trans rfl; have hcz68_4 : w66.cell? ⟨gb229, 4, none⟩ = some (.slice none 0 0) := (blk_cell BK229.out 4).trans rfl; have hfz68_0 := blk_frozen BK229.out 0; have hfz68_1 := blk_frozen BK229.out 1; have hfz68_2 := blk_frozen BK229.out 2; have hfz68_3 := blk_frozen BK229.out 3; have hfz68_4 := blk_frozen BK229.out 4; obtain ⟨Ao69, co69, eo69⟩ := Kd.R_slice HO227.out; subst eo69) | ((with_reducible refine gate_dst (N := 79) rfl ?_); (try (refine gate_guard (by rfl) ?_; dsimp only)); refine Kd.R_lit (Kd.int .i64) _ 3 ?hg (N := 79) ?hd (xs := ([] : List Int)) (inner := []) (ok := fun _ => True) (okp := fun _ => True) ?hr ?hp (fun _ hk => hk) trivial (Below.refl _ _) (Nat.le_refl _) (by simp) ?_; (case hd => rfl); (case hg => rfl); (case hr => first | (go_simp; done) | (go_simp; rfl)); (case hp => exact (Reps.none _ _)); intro v231 w70 ho71 hb hg_ hnew_; clear hg_ hnew_; (first | rw [← Ny230.out] at ho71 | (simp only [Int.reduceToNat] at ho71; rw [← Ny230.out] at ho71)); have n0_ := A_ (Kd.R_elder' (by (with_reducible repeat (first | apply Kd.R_alloc | apply Kd.R_drewN | apply Kd.R_drew)); exact (Kd.R_mono (Kd.R_far (p := ⟨gb229, 4, none⟩) (Kd.R_far (p := ⟨gb229, 3, none⟩) (Kd.R_far (p := ⟨gb229, 2, none⟩) (Kd.R_far (p := ⟨gb229, 1, none⟩) (Kd.R_far (p := ⟨gb229, 0, none⟩) (Kd.R_types HO227.out BK229.out (by decide)) (fun _ hk => hk.2) (.int .i64 t221)) (fun _ hk => hk.2) (.int .i64 t222)) (fun _ hk => hk.2) (.int .i64 t223)) (fun _ hk => hk.2) (.int .i64 t224)) (fun _ hk => hk.2) (.slice Ao69 t225.length co69)) (fun _ h_ => h_.1))) (Kd.R_base ho71) hb); have n1_ := A_ (Kd.R_lower (Kd.R_new' ho71 (Kd.R_lt (by (with_reducible repeat (first | apply Kd.R_alloc | apply Kd.R_drewN | apply Kd.R_drew)); exact (Kd.R_mono (Kd.R_far (p := ⟨gb229, 4, none⟩) (Kd.R_far (p := ⟨gb229, 3, none⟩) (Kd.R_far (p := ⟨gb229, 2, none⟩) (Kd.R_far (p := ⟨gb229, 1, none⟩) (Kd.R_far (p := ⟨gb229, 0, none⟩) (Kd.R_types HO227.out BK229.out (by decide)) (fun _ hk => hk.2) (.int .i64 t221)) (fun _ hk => hk.2) (.int .i64 t222)) (fun _ hk => hk.2) (.int .i64 t223)) (fun _ hk => hk.2) (.int .i64 t224)) (fun _ hk => hk.2) (.slice Ao69 t225.length co69)) (fun _ h_ => h_.1))))) (below_size (bk_ HB.out))); have n2_ := A_ (blk_below (g := gb216) (o := .cells #[.int .i64 a0_0, .int .i64 a0_1, .slice A0_2 l0_2.length c0_2] 24 (0, 0)) (by refine pk_ ?_; refine blk_far ?_ NB216_229.out _; refine pk_ ?_; refine blk_far ?_ NB216_229.out _; refine pk_ ?_; refine blk_far ?_ NB216_229.out _; refine pk_ ?_; refine blk_far ?_ NB216_229.out _; refine pk_ ?_; refine blk_far ?_ NB216_229.out _; exact pk_ BK216.out) hb); have n3_ := A_ (blk_below (g := gb229) (o := .cells #[.int .i64 t221, .int .i64 t222, .int .i64 t223, .int .i64 t224, .slice Ao69 t225.length co69] 29 (0, 0)) (by refine pk_ ?_; refine blk_put (cs := #[.int .i64 t221, .int .i64 t222, .int .i64 t223, .int .i64 t224, .slice none 0 0]) ?_ 4 _ rfl; refine pk_ ?_; refine blk_put (cs := #[.int .i64 t221, .int .i64 t222, .int .i64 t223, .int .i64 0, .slice none 0 0]) ?_ 3 _ rfl; refine pk_ ?_; refine blk_put (cs := #[.int .i64 t221, .int .i64 t222, .int .i64 0, .int .i64 0, .slice none 0 0]) ?_ 2 _ rfl; refine pk_ ?_; refine blk_put (cs := #[.int .i64 t221, .int .i64 0, .int .i64 0, .int .i64 0, .slice none 0 0]) ?_ 1 _ rfl; refine pk_ ?_; refine blk_put (cs := #[.int .i64 0, .int .i64 0, .int .i64 0, .int .i64 0, .slice none 0 0]) ?_ 0 _ rfl; exact pk_ BK229.out) hb); have n4_ := A_ (below_step (bk_ HB.out) hb); clear HO227 BK216 BK229 HB; have HO227 := n0_; have HO232 := n1_; have BK216 := n2_; have BK229 := n3_; have HB := n4_; clear n0_ n1_ n2_ n3_ n4_ hb ho71) | ((with_reducible refine gate_builtin (b := .append) (xs := #[.tmp 79, .tmp 80]) rfl ?_); (try (refine gate_guard (by rfl) ?_; dsimp only)); at_builtin; refine Kd.R_append_rows (Kd.int .i64) (w0 := w) w.heap.size rfl (.tmp 79) (.tmp 80) 25 3 (.int .i64 0) 8 rfl Try.underlying25 info3 rfl (by decide) (by omega) v231 y230 l3 _ _ _ (fun k_ => some k_ ≠ (.slice Ao69 t225.length co69 : Value).ownBlock) (fun _ => False) rfl rfl ?aO ?aR (fun _ _ h => h) (fun _ h => h.elim) ?aF ?aB ?aS ?aL ?_; (case aR => repeat (first | exact (Kd.C_below HR3.out HB.out) | (with_reducible refine Kd.C_alloc ?_ _) | (with_reducible refine Kd.C_drewN ?_ _) | (with_reducible refine Kd.C_drew ?_))); (case aB => exact (bk_ HB.out)); (case aF => exact (fun k_ hk => Kd.fresh' (Kd.R_lt (rk_ HO227.out)) k_ hk)); (case aO => exact (by (with_reducible repeat (first | apply Kd.R_alloc | apply Kd.R_drewN | apply Kd.R_drew)); exact Kd.R_mono HO232.out (fun _ hk => hk.2))); (case aS => exact (below_size (bk_ HB.out))); (case aL => have := LMc63.out; omega); intro v234 w72 ho hb hg hat; rw [← Ny233.out] at ho; have n0_ := A_ (blk_grown (pk_ BK216.out) hg (Kd.R_ne HO232.out BK216.out (by decide))); have n1_ := A_ (Kd.R_after (ok := (fun _ => True)) (rk_ HO227.out) hg hat); have n2_ := A_ (blk_grown (pk_ BK229.out) hg (Kd.R_ne HO232.out BK229.out (by decide))); have n3_ := A_ (hb); have n4_ := A_ (ho); clear BK216 HO227 BK229 HB HO232; have BK216 := n0_; have HO227 := n1_; have BK229 := n2_; have HB := n3_; have HO235 := n4_; clear n0_ n1_ n2_ n3_ n4_ ho hb hg hat))
       go_loopg [1, 2, 15, 16] kj5 (fun kq v1 v2 v15 v16 w' => ∃ (x1_2 : Int) (x2_2 : Int) (x14_2 : List Int) (x15_2 : Int) (x16_2 : Int), v1 = .int .i64 x1_2 ∧ v2 = .int .i64 x2_2 ∧ v15 = .int .i64 x15_2 ∧ v16 = .int .i64 x16_2 ∧ Aside0 (standstilllaw05_BlockParts.l0 kq x1_2 x2_2 l3 (wrap64 (1 + (Int.tmod (wrap64 (a4)) (wrap64 ((l3.length : Int) - 1))))) x14_2 x15_2 x16_2 a0_0 a0_1 l0_2 t221 t222 t223 t224 t225 = some r) ∧ Aside0 (kq ≤ kj5) ∧ Aside0 (Kd.R (Kd.int .i64) 3 w' w.heap.size (fun k_ => some k_ ≠ ((.slice Ao69 t225.length co69) : Value).ownBlock) v234 x14_2) ∧ Aside0 (Kd.R (Kd.int .i64) 3 w' w.heap.size (fun k_ => some k_ ≠ (v234 : Value).ownBlock) (.slice Ao69 t225.length co69) t225) ∧ Aside0 (w'.heap[gb216]? = some (.cells #[.int .i64 a0_0, .int .i64 a0_1, (.slice A0_2 l0_2.length c0_2)] 24 (0, 0))) ∧ Aside0 (w'.heap[gb229]? = some (.cells #[.int .i64 t221, .int .i64 t222, .int .i64 t223, .int .i64 t224, (.slice Ao69 t225.length co69)] 29 (0, 0))) ∧ Aside0 (Below w.heap.size w w'))
       case atStart => exact ⟨(a1), (a2), (y233), (0), (0), jr_, jr_, jr_, jr_, H', ⟨Nat.le_refl _⟩, ⟨rk_ HO235.out⟩, ⟨by (with_reducible repeat (first | apply Kd.R_alloc | apply Kd.R_drewN | apply Kd.R_drew)); exact Kd.R_mono HO227.out (fun _ hk => hk.2)⟩, ⟨pk_ BK216.out⟩, ⟨pk_ BK229.out⟩, ⟨bk_ HB.out⟩⟩
       case round => as_aux_lemma =>
        clear H'
        (try clear c3); (try clear c57); (try clear c60); (try clear c60b0); (try clear c60b1); (try clear c62); (try clear c62b0); (try clear c62b1); (try clear c63); (try clear hcz64_0); (try clear hcz64_1); (try clear hcz64_2); (try clear hcz68_0); (try clear hcz68_1); (try clear hcz68_2); (try clear hcz68_3); (try clear hcz68_4); (try clear hfz64_0); (try clear hfz64_1); (try clear hfz64_2); (try clear hfz68_0); (try clear hfz68_1); (try clear hfz68_2); (try clear hfz68_3); (try clear hfz68_4)
        obtain ⟨x1_2, x2_2, x14_2, x15_2, x16_2, rfl, rfl, rfl, rfl, HA, HK2, HO_14, HO_230004, BK216, BK229, HB⟩ := hrel
        cases gk with
        | zero => exact absurd HA.out (by simp [standstilllaw05_BlockParts.l0])
        | succ k2 =>
         have H := HA.out
         clear HA
         simp only [standstilllaw05_BlockParts.l0] at H
         have HC73 := Aside0.mk H
         clear H
         go_upto_region 9 with (fail)
         go_cut [88] (fun v88 wc => ∃ (kq : Nat) (x88_72 : Bool), v88 = .bool x88_72 ∧ Aside0 (standstilllaw05_BlockParts.j2 kq x1_2 x2_2 l3 (wrap64 (1 + (Int.tmod (wrap64 (a4)) (wrap64 ((l3.length : Int) - 1))))) x14_2 x15_2 x16_2 x88_72 a0_0 a0_1 l0_2 t221 t222 t223 t224 t225 = some r) ∧ Aside0 (kq ≤ k2) ∧ Aside0 (Kd.R (Kd.int .i64) 3 wc w.heap.size (fun k_ => some k_ ≠ ((.slice Ao69 t225.length co69) : Value).ownBlock) v234 x14_2) ∧ Aside0 (Kd.R (Kd.int .i64) 3 wc w.heap.size (fun k_ => some k_ ≠ (v234 : Value).ownBlock) (.slice Ao69 t225.length co69) t225) ∧ Aside0 (wc.heap[gb216]? = some (.cells #[.int .i64 a0_0, .int .i64 a0_1, (.slice A0_2 l0_2.length c0_2)] 24 (0, 0))) ∧ Aside0 (wc.heap[gb229]? = some (.cells #[.int .i64 t221, .int .i64 t222, .int .i64 t223, .int .i64 t224, (.slice Ao69 t225.length co69)] 29 (0, 0))) ∧ Aside0 (Below w.heap.size w wc))
         case first => as_aux_lemma =>
          have H := HC73.out
          clear HC73
          by_cases c74 : x16_2 ≤ 3000
          ·rw [if_pos c74] at H
           have c74b0 : decide (x16_2 ≤ 3000) = true := decide_eq_true c74
           clear c74
           (first | rw [c74b0] | (simp only [i64_w, i32_w]; rw [c74b0]) | skip)
           have H' := Aside0.mk H
           clear H
           go_wp2
           go_meet
           case rel => exact ⟨_, (true), jr_, H', ⟨by have := HJ5.out; have := HK2.out; first | omega | exact Nat.le_refl _⟩, ⟨rk_ HO_14.out⟩, ⟨rk_ HO_230004.out⟩, ⟨pk_ BK216.out⟩, ⟨pk_ BK229.out⟩, ⟨bk_ HB.out⟩⟩
          ·rw [if_neg c74] at H
           have c74b0 : decide (x16_2 ≤ 3000) = false := decide_eq_false c74
           clear c74
           (first | rw [c74b0] | (simp only [i64_w, i32_w]; rw [c74b0]) | skip)
           have H' := Aside0.mk H
           clear H
           have hnb75 := NB229_216.out
           have hnc75 := NB216_229.out
           have hcz76_0 : wr.cell? ⟨gb229, 0, none⟩ = some (.int .i64 t221) := (blk_cell BK229.out 0).trans rfl
           have hcz76_1 : wr.cell? ⟨gb229, 1, none⟩ = some (.int .i64 t222) := (blk_cell BK229.out 1).trans rfl
           have hcz76_2 : wr.cell? ⟨gb229, 2, none⟩ = some (.int .i64 t223) := (blk_cell BK229.out 2).trans rfl
           have hcz76_3 : wr.cell? ⟨gb229, 3, none⟩ = some (.int .i64 t224) := (blk_cell BK229.out 3).trans rfl
           have hcz76_4 : wr.cell? ⟨gb229, 4, none⟩ = some (.slice Ao69 t225.length co69) := (blk_cell BK229.out 4).trans rfl
           have hfz76_0 := blk_frozen BK229.out 0
           have hfz76_1 := blk_frozen BK229.out 1
           have hfz76_2 := blk_frozen BK229.out 2
           have hfz76_3 := blk_frozen BK229.out 3
           have hfz76_4 := blk_frozen BK229.out 4
           go_wp2
           go_meet
           case rel => exact ⟨_, ((t221 != 3)), jr_, H', ⟨by have := HJ5.out; have := HK2.out; first | omega | exact Nat.le_refl _⟩, ⟨rk_ HO_14.out⟩, ⟨rk_ HO_230004.out⟩, ⟨pk_ BK216.out⟩, ⟨pk_ BK229.out⟩, ⟨bk_ HB.out⟩⟩
         case rest => as_aux_lemma =>
          clear HC73
          (try clear c3); (try clear c57); (try clear c60); (try clear c60b0); (try clear c60b1); (try clear c62); (try clear c62b0); (try clear c62b1); (try clear c63); (try clear hcz64_0); (try clear hcz64_1); (try clear hcz64_2); (try clear hcz68_0); (try clear hcz68_1); (try clear hcz68_2); (try clear hcz68_3); (try clear hcz68_4); (try clear hfz64_0); (try clear hfz64_1); (try clear hfz64_2); (try clear hfz68_0); (try clear hfz68_1); (try clear hfz68_2); (try clear hfz68_3); (try clear hfz68_4)
          obtain ⟨kq, x88_72, rfl, HA, HJ72, HO_14, HO_230004, BK216, BK229, HB⟩ := hcut
          cases kq with
          | zero => exact absurd HA.out (by simp [standstilllaw05_BlockParts.j2])
          | succ kj72 =>
           have H := HA.out
           clear HA
           simp only [standstilllaw05_BlockParts.j2] at H
           by_cases c77 : x88_72 = true
           ·subst c77
            have H1 : (if x2_2 ≥ (wrap64 (1 + (Int.tmod (wrap64 (a4)) (wrap64 ((l3.length : Int) - 1))))) then (standstilllaw05_BlockParts.j3 kj72 x1_2 x2_2 l3 (wrap64 (1 + (Int.tmod (wrap64 (a4)) (wrap64 ((l3.length : Int) - 1))))) x14_2 x15_2 x16_2 (wrap64 (1 + (Int.tmod (wrap64 (a4)) (wrap64 ((l3.length : Int) - 1))))) (l3.length : Int) a0_0 a0_1 l0_2 t221 t222 t223 t224 t225) else (standstilllaw05_BlockParts.j3 kj72 x1_2 x2_2 l3 (wrap64 (1 + (Int.tmod (wrap64 (a4)) (wrap64 ((l3.length : Int) - 1))))) x14_2 x15_2 x16_2 0 (wrap64 (1 + (Int.tmod (wrap64 (a4)) (wrap64 ((l3.length : Int) - 1))))) a0_0 a0_1 l0_2 t221 t222 t223 t224 t225)) = some r := by rw [if_pos rfl] at H; exact H
            clear H
            have H := H1
            clear H1
            have HC78 := Aside0.mk H
            clear H
            go_upto_if 94 with (fail)
            go_cut [17, 18] (fun v17 v18 wc => ∃ (kq : Nat) (x17_77 : Int) (x18_77 : Int), v17 = .int .i64 x17_77 ∧ v18 = .int .i64 x18_77 ∧ Aside0 (standstilllaw05_BlockParts.j3 kq x1_2 x2_2 l3 (wrap64 (1 + (Int.tmod (wrap64 (a4)) (wrap64 ((l3.length : Int) - 1))))) x14_2 x15_2 x16_2 x17_77 x18_77 a0_0 a0_1 l0_2 t221 t222 t223 t224 t225 = some r) ∧ Aside0 (kq ≤ kj72) ∧ Aside0 (Kd.R (Kd.int .i64) 3 wc w.heap.size (fun k_ => some k_ ≠ ((.slice Ao69 t225.length co69) : Value).ownBlock) v234 x14_2) ∧ Aside0 (Kd.R (Kd.int .i64) 3 wc w.heap.size (fun k_ => some k_ ≠ (v234 : Value).ownBlock) (.slice Ao69 t225.length co69) t225) ∧ Aside0 (wc.heap[gb216]? = some (.cells #[.int .i64 a0_0, .int .i64 a0_1, (.slice A0_2 l0_2.length c0_2)] 24 (0, 0))) ∧ Aside0 (wc.heap[gb229]? = some (.cells #[.int .i64 t221, .int .i64 t222, .int .i64 t223, .int .i64 t224, (.slice Ao69 t225.length co69)] 29 (0, 0))) ∧ Aside0 (Below w.heap.size w wc))
            case first => as_aux_lemma =>
             have H := HC78.out
             clear HC78
             by_cases c79 : x2_2 ≥ (wrap64 (1 + (Int.tmod (wrap64 (a4)) (wrap64 ((l3.length : Int) - 1)))))
             ·rw [if_pos c79] at H
              have c79b0 : decide ((wrap64 (1 + (Int.tmod (wrap64 (a4)) (wrap64 ((l3.length : Int) - 1))))) ≤ x2_2) = true := decide_eq_true c79
              clear c79
              (first | rw [c79b0] | (simp only [i64_w, i32_w]; rw [c79b0]) | skip)
              have H' := Aside0.mk H
              clear H
              go_wp2
              go_meet
              case rel => exact ⟨_, ((wrap64 (1 + (Int.tmod (wrap64 (a4)) (wrap64 ((l3.length : Int) - 1)))))), ((l3.length : Int)), jr_, jr_, H', ⟨by have := HJ5.out; have := HK2.out; have := HJ72.out; first | omega | exact Nat.le_refl _⟩, ⟨rk_ HO_14.out⟩, ⟨rk_ HO_230004.out⟩, ⟨pk_ BK216.out⟩, ⟨pk_ BK229.out⟩, ⟨bk_ HB.out⟩⟩
             ·rw [if_neg c79] at H
              have c79b0 : decide ((wrap64 (1 + (Int.tmod (wrap64 (a4)) (wrap64 ((l3.length : Int) - 1))))) ≤ x2_2) = false := decide_eq_false c79
              clear c79
              (first | rw [c79b0] | (simp only [i64_w, i32_w]; rw [c79b0]) | skip)
              have H' := Aside0.mk H
              clear H
              go_wp2
              go_meet
              case rel => exact ⟨_, (0), ((wrap64 (1 + (Int.tmod (wrap64 (a4)) (wrap64 ((l3.length : Int) - 1)))))), jr_, jr_, H', ⟨by have := HJ5.out; have := HK2.out; have := HJ72.out; first | omega | exact Nat.le_refl _⟩, ⟨rk_ HO_14.out⟩, ⟨rk_ HO_230004.out⟩, ⟨pk_ BK216.out⟩, ⟨pk_ BK229.out⟩, ⟨bk_ HB.out⟩⟩
            case rest => as_aux_lemma =>
             clear HC78
             (try clear c3); (try clear c57); (try clear c60); (try clear c60b0); (try clear c60b1); (try clear c62); (try clear c62b0); (try clear c62b1); (try clear c63); (try clear c77); (try clear hcz64_0); (try clear hcz64_1); (try clear hcz64_2); (try clear hcz68_0); (try clear hcz68_1); (try clear hcz68_2); (try clear hcz68_3); (try clear hcz68_4); (try clear hfz64_0); (try clear hfz64_1); (try clear hfz64_2); (try clear hfz68_0); (try clear hfz68_1); (try clear hfz68_2); (try clear hfz68_3); (try clear hfz68_4)
             obtain ⟨kq, x17_77, x18_77, rfl, rfl, HA, HJ77, HO_14, HO_230004, BK216, BK229, HB⟩ := hcut
             cases kq with
             | zero => exact absurd HA.out (by simp [standstilllaw05_BlockParts.j3])
             | succ kj77 =>
              have H := HA.out
              clear HA
              simp only [standstilllaw05_BlockParts.j3] at H
              by_cases c80 : 0 ≤ x17_77
              ·rw [if_pos c80] at H
               have c80b0 := eq_true c80
               have c80b1 : decide (0 ≤ x17_77) = true := decide_eq_true c80
               clear c80
               by_cases c81 : x17_77 ≤ x18_77
               ·rw [if_pos c81] at H
                have c81b0 := eq_true c81
                have c81b1 : decide (x17_77 ≤ x18_77) = true := decide_eq_true c81
                clear c81
                by_cases c82 : x18_77 ≤ (x14_2.length : Int)
                ·rw [if_pos c82] at H
                 have c82b0 := eq_true c82
                 have c82b1 : decide (x18_77 ≤ (x14_2.length : Int)) = true := decide_eq_true c82
                 clear c82
                 obtain ⟨y237, hy237⟩ : ∃ y_ : List Int, y_ = ((x14_2.take (x18_77 : Int).toNat).drop (x17_77 : Int).toNat) := ⟨_, rfl⟩
                 replace H : ((block_Cross.f kj77 a0_0 a0_1 l0_2 x1_2 (wrap64 (x2_2 - x17_77)) y237).bind fun bt241 => (if bt241.2.2.2.2.2 = 0 then (if bt241.1 = 3 then (if t221 = 3 then ((standstilllaw05_awake.f kj77).bind fun t250 => (some t250)) else (none)) else (if (bt241.2.2.2.2.1.length : Int) = (wrap64 (x18_77 - x17_77)) then (standstilllaw05_BlockParts.j4 kj77 l3 (wrap64 (1 + (Int.tmod (wrap64 (a4)) (wrap64 ((l3.length : Int) - 1))))) x14_2 x15_2 x16_2 x17_77 (decide (bt241.2.2.1 < 1)) a0_0 a0_1 l0_2 t221 t222 t223 t224 t225 bt241.1 bt241.2.1 bt241.2.2.1 bt241.2.2.2.1 bt241.2.2.2.2.1) else (standstilllaw05_BlockParts.j4 kj77 l3 (wrap64 (1 + (Int.tmod (wrap64 (a4)) (wrap64 ((l3.length : Int) - 1))))) x14_2 x15_2 x16_2 x17_77 true a0_0 a0_1 l0_2 t221 t222 t223 t224 t225 bt241.1 bt241.2.1 bt241.2.2.1 bt241.2.2.2.1 bt241.2.2.2.2.1))) else (none))) = some r := by first | (rw [hy237]; with_reducible exact H) | (have H2_ := (Option.bind_some _ _).symm.trans H; rw [hy237]; with_reducible exact H2_) | (have H2_ := (Option.bind_some _ _).symm.trans H; with_reducible exact H2_) | with_reducible exact H | (rw [hy237]; exact H) | exact H
                 have Ny237 := Aside0.mk hy237
                 clear hy237
                 replace H := Option.bind_eq_some_iff.mp H
                 obtain ⟨⟨t241, t242, t243, t244, t245, t248⟩, A830, H⟩ := H
                 replace H : (if t248 = 0 then (if t241 = 3 then (if t221 = 3 then ((standstilllaw05_awake.f kj77).bind fun t250 => (some t250)) else (none)) else (if (t245.length : Int) = (wrap64 (x18_77 - x17_77)) then (standstilllaw05_BlockParts.j4 kj77 l3 (wrap64 (1 + (Int.tmod (wrap64 (a4)) (wrap64 ((l3.length : Int) - 1))))) x14_2 x15_2 x16_2 x17_77 (decide (t243 < 1)) a0_0 a0_1 l0_2 t221 t222 t223 t224 t225 t241 t242 t243 t244 t245) else (standstilllaw05_BlockParts.j4 kj77 l3 (wrap64 (1 + (Int.tmod (wrap64 (a4)) (wrap64 ((l3.length : Int) - 1))))) x14_2 x15_2 x16_2 x17_77 true a0_0 a0_1 l0_2 t221 t222 t223 t224 t225 t241 t242 t243 t244 t245))) else (none)) = some r := H
                 have A83 := Aside0.mk A830
                 clear A830
                 by_cases c84 : t248 = 0
                 ·rw [if_pos c84] at H
                  have c84b0 : (t248 == 0) = true := beq_iff_eq.mpr c84
                  have c84b1 : (t248 != 0) = false := bne_eq_false_iff_eq.mpr c84
                  clear c84
                  by_cases c85 : t241 = 3
                  ·rw [if_pos c85] at H
                   have c85b0 : (t241 == 3) = true := beq_iff_eq.mpr c85
                   have c85b1 : (t241 != 3) = false := bne_eq_false_iff_eq.mpr c85
                   clear c85
                   by_cases c86 : t221 = 3
                   ·rw [if_pos c86] at H
                    have c86b0 : (t221 == 3) = true := beq_iff_eq.mpr c86
                    have c86b1 : (t221 != 3) = false := bne_eq_false_iff_eq.mpr c86
                    clear c86
                    replace H := Option.bind_eq_some_iff.mp H
                    obtain ⟨t250, A870, H⟩ := H
                    replace H : (some t250) = some r := H
                    have A87 := Aside0.mk A870
                    clear A870
                    obtain rfl := Option.some.inj H
                    try go_wp2
                    have n0_ := A_ (Kd.R_drew HO_14.out)
                    have n1_ := A_ (Kd.R_drew HO_230004.out)
                    have n2_ := A_ (blk_drew BK216.out)
                    have n3_ := A_ (blk_drew BK229.out)
                    have n4_ := A_ (below_drew1 HB.out)
                    clear HO_14 HO_230004 BK216 BK229 HB
                    have HO_14 := n0_
                    have HO_230004 := n1_
                    have BK216 := n2_
                    have BK229 := n3_
                    have HB := n4_
                    clear n0_ n1_ n2_ n3_ n4_
                    obtain ⟨Ao90, co90, eo90⟩ := Kd.R_slice HO_14.out
                    (first | subst eo90 | (injection eo90 with f1_ f2_ f3_; have f4_ := f1_.symm; have f5_ := f3_.symm; clear f1_ f2_ f3_; subst f4_; subst f5_))
                    have q89 : (x18_77 : Int) ≤ ((x14_2.length : Int) : Int) := od_
                    obtain ⟨i089, hi089, _, hsz89, _⟩ := info_parts info3
                    have hroom89 : x14_2.length ≤ co90 := (Kd.R_reads' HO_14.out).2.1
                    have hC89 : Kd.C (Kd.int .i64) _ Ao90 x14_2.length x14_2 := (Kd.R_reads' HO_14.out).2.2
                    have ql89 : (x17_77 : Int) ≤ (x18_77 : Int) := od_
                    have q089 : (0 : Int) ≤ (x17_77 : Int) := od_
                    have hcut89 := cut_mid (P := Try.prog) 25 3 .i64 .i64 Try.underlying25 hi089 1 hsz89 Ao90 x14_2.length co90 x17_77 x18_77 q089 ql89 q89 hroom89
                    have hr89 := Kd.C_mid (lo := (x17_77 : Int).toNat) (hi := (x18_77 : Int).toNat) (c := co90) hC89 (by omega) (by omega) hroom89
                    obtain ⟨A89, hA89⟩ : ∃ A1, A1 = (if co90 = (x17_77 : Int).toNat then Ao90 else (Ao90 : Option Addr).map (·.add ((x17_77 : Int).toNat * 1))) := ⟨_, rfl⟩
                    obtain ⟨c89, hc89⟩ : ∃ c1, c1 = co90 - (x17_77 : Int).toNat := ⟨_, rfl⟩
                    have hy89 : y237.length = (x18_77 : Int).toNat - (x17_77 : Int).toNat := (by rw [Ny237.out, List.length_drop, List.length_take] <;> omega)
                    rw [show ((x14_2).take (x18_77 : Int).toNat).drop (x17_77 : Int).toNat = y237 from Ny237.out.symm] at hr89
                    replace hr89 : Kd.C (Kd.int .i64) _ A89 y237.length y237 := (by rw [hA89]; exact hr89)
                    rw [← hy89, ← hA89, ← hc89] at hcut89
                    have HR240 := Aside0.mk hr89
                    have HC240 := A_ (show y237.length ≤ c89 from by rw [hy89, hc89]; exact Nat.sub_le_sub_right (Nat.le_trans (by omega) hroom89) _)
                    clear hr89 hC89 hroom89 hi089 hsz89 hc89
                    have KY89 := Aside0.mk hy89
                    have KA89 := Aside0.mk hA89
                    clear hy89 hA89
                    have KL89 := A_ (show (x18_77 : Int).toNat ≤ x14_2.length from by omega)
                    have KM89 := A_ (show (x17_77 : Int).toNat ≤ (x18_77 : Int).toNat from by omega)
                    replace q89 := eq_true q89
                    refine start_ (n := 16) (S := fun w' => w'.cell? ⟨gb216, 0, none⟩ = some (.int .i64 a0_0) ∧ w'.cell? ⟨gb216, 1, none⟩ = some (.int .i64 a0_1) ∧ w'.cell? ⟨gb216, 2, none⟩ = some (.slice A0_2 l0_2.length c0_2)) (ds := []) #[false, false, false, false, false, false, false, false, false, false, false, false, false, false, false, false] (by kernel_rfl) rfl rfl ⟨(blk_cell BK216.out 0).trans rfl, (blk_cell BK216.out 1).trans rfl, (blk_cell BK216.out 2).trans rfl⟩ (fun hHeld => ?_); refine with_tabW standstilllaw05_BlockParts.tab14 standstilllaw05_BlockParts.bits14 (fun HT_ HW_ => ?_)
                    generalize wc.drew = w88 at HO_14 HO_230004 BK216 BK229 HB HR240 hHeld ⊢
                    refine pure_ (i := 1) (N := some 100) (v := ?_) (a' := ?_) #[false, true, false, false, false, false, false, false, false, false, false, false, false, false, false, false] rfl rfl (any_of HT_.out (by kernel_rfl)) (fun _ _ _ h => h) (Or.inl ⟨by rfl, ?_⟩) ?_ ?_
                    rotate_left
                    ·intro w'
                     go_simp
                     with_reducible rfl
                    rotate_left
                    ·simp only [Act.put, sa_, sz_, ss_, i64_w, i32_w]
                     rfl
                    refine pure_ (i := 2) (N := some 101) (v := ?_) (a' := ?_) #[false, true, true, false, false, false, false, false, false, false, false, false, false, false, false, false] rfl rfl (any_of HT_.out (by kernel_rfl)) (fun _ _ _ h => h) (Or.inl ⟨by rfl, ?_⟩) ?_ ?_
                    rotate_left
                    ·intro w'
                     go_simp
                     with_reducible rfl
                    rotate_left
                    ·simp only [Act.put, sa_, sz_, ss_, i64_w, i32_w]
                     rfl
                    refine pure_ (i := 3) (N := some 102) (v := ?_) (a' := ?_) #[false, true, true, true, false, false, false, false, false, false, false, false, false, false, false, false] rfl rfl (any_of HT_.out (by kernel_rfl)) (fun _ _ _ h => h) (Or.inl ⟨by rfl, ?_⟩) ?_ ?_
                    rotate_left
                    ·intro w'
                     go_simp
                     with_reducible rfl
                    rotate_left
                    ·simp only [Act.put, sa_, sz_, ss_, i64_w, i32_w]
                     rfl
                    refine pure_ (i := 4) (N := some 103) (v := ?_) (a' := ?_) #[false, true, true, true, true, false, false, false, false, false, false, false, false, false, false, false] rfl rfl (any_of HT_.out (by kernel_rfl)) (fun _ _ _ h => h) (Or.inl ⟨by rfl, ?_⟩) ?_ ?_
                    rotate_left
                    ·intro w'
                     go_simp
                     with_reducible rfl
                    rotate_left
                    ·simp only [Act.put, sa_, sz_, ss_, i64_w, i32_w]
                     rfl
                    refine pure_ (i := 5) (N := some 104) (v := ?_) (a' := ?_) #[false, true, true, true, true, true, false, false, false, false, false, false, false, false, false, false] rfl rfl (any_of HT_.out (by kernel_rfl)) (fun _ _ _ h => h) (Or.inl ⟨by rfl, ?_⟩) ?_ ?_
                    rotate_left
                    ·intro w'
                     go_simp
                     with_reducible rfl
                    rotate_left
                    ·simp only [Act.put, sa_, sz_, ss_, i64_w, i32_w]
                     rfl
                    refine pure_ (i := 6) (N := some 105) (v := ?_) (a' := ?_) #[false, true, true, true, true, true, true, false, false, false, false, false, false, false, false, false] rfl rfl (any_of HT_.out (by kernel_rfl)) (fun _ _ _ h => h) (Or.inl ⟨by rfl, ?_⟩) ?_ ?_
                    rotate_left
                    ·intro w'
                     go_simp
                     with_reducible rfl
                    rotate_left
                    ·simp only [Act.put, sa_, sz_, ss_, i64_w, i32_w]
                     rfl
                    refine pure_ (i := 7) (N := some 106) (v := ?_) (a' := ?_) #[false, true, true, true, true, true, true, true, false, false, false, false, false, false, false, false] rfl rfl (any_of HT_.out (by kernel_rfl)) (fun _ _ _ h => h) (Or.inl ⟨by rfl, ?_⟩) ?_ ?_
                    rotate_left
                    ·intro w'
                     go_simp
                     with_reducible rfl
                    rotate_left
                    ·simp only [Act.put, sa_, sz_, ss_, i64_w, i32_w]
                     rfl
                    refine pure_ (i := 8) (N := some 107) (v := ?_) (a' := ?_) #[false, true, true, true, true, true, true, true, true, false, false, false, false, false, false, false] rfl rfl (any_of HT_.out (by kernel_rfl)) (fun _ _ _ h => h) (Or.inl ⟨by rfl, ?_⟩) ?_ ?_
                    rotate_left
                    ·intro w'
                     go_simp
                     with_reducible rfl
                    rotate_left
                    ·simp only [Act.put, sa_, sz_, ss_, i64_w, i32_w]
                     rfl
                    refine take_ (i := 0) (N := some 99) (v := ?_) (a' := ?_) #[true, true, true, true, true, true, true, true, true, false, false, false, false, false, false, false] rfl rfl (take_ofW HT_.out HW_.out (by kernel_rfl)) (fun _ _ _ h => h) (Or.inl ⟨by rfl, ?_⟩) hHeld ?_ ?_
                    rotate_left
                    ·rintro w' ⟨s0, s1, s2⟩
                     go_simp
                     with_reducible rfl
                    rotate_left
                    ·simp only [Act.put, sa_, sz_, ss_, i64_w, i32_w]
                     rfl
                    refine join_ (σ := Value × Nat) 2 #[true, true, true, true, true, true, true, true, true, true, true, true, true, true, false, false] (fun s_ => [(108, .tuple #[.agg #[.int .i64 t241, .int .i64 t242, .int .i64 t243, .int .i64 t244, s_.1], .int .i64 t248]), (19, .pointer (some ⟨s_.2, 0, none⟩)), (98, .tuple #[.agg #[.int .i64 t241, .int .i64 t242, .int .i64 t243, .int .i64 t244, s_.1], .int .i64 t248]), (109, .agg #[.int .i64 t241, .int .i64 t242, .int .i64 t243, .int .i64 t244, s_.1]), (110, .int .i64 t248)]) (fun s_ w' => (w'.cell? ⟨gb216, 0, none⟩ = some (.int .i64 a0_0) ∧ w'.cell? ⟨gb216, 1, none⟩ = some (.int .i64 a0_1) ∧ w'.cell? ⟨gb216, 2, none⟩ = some (.slice A0_2 l0_2.length c0_2)) ∧ (Kd.R (Kd.int .i64) 3 w' w.heap.size (fun k_ => some k_ ≠ (.slice Ao90 x14_2.length co90 : Value).ownBlock ∧ some k_ ≠ (.slice Ao69 t225.length co69 : Value).ownBlock) s_.1 t245) ∧ (Kd.R (Kd.int .i64) 3 w' w.heap.size (fun k_ => some k_ ≠ (s_.1 : Value).ownBlock ∧ some k_ ≠ (.slice Ao69 t225.length co69 : Value).ownBlock) (.slice Ao90 x14_2.length co90) x14_2) ∧ (Kd.R (Kd.int .i64) 3 w' w.heap.size (fun k_ => some k_ ≠ (s_.1 : Value).ownBlock ∧ some k_ ≠ (.slice Ao90 x14_2.length co90 : Value).ownBlock) (.slice Ao69 t225.length co69) t225) ∧ (w'.heap[gb216]? = some (.cells #[.int .i64 a0_0, .int .i64 a0_1, .slice A0_2 l0_2.length c0_2] 24 (0, 0))) ∧ (w'.heap[gb229]? = some (.cells #[.int .i64 t221, .int .i64 t222, .int .i64 t223, .int .i64 t224, .slice Ao69 t225.length co69] 29 (0, 0))) ∧ (w'.heap[s_.2]? = some (.cells #[.int .i64 0, .int .i64 0, .int .i64 0, .int .i64 0, .slice none 0 0] 29 (0, 0))) ∧ (w.heap.size ≤ s_.2) ∧ (w.heap.size ≤ s_.2) ∧ (gb216 ≠ s_.2) ∧ (s_.2 ≠ gb216) ∧ (gb229 ≠ s_.2) ∧ (s_.2 ≠ gb229) ∧ (Below w.heap.size w w')) ?_ ?_
                    rotate_left
                    ·intro hCont
                     refine two_ (i := 9) (j := 13) (Ni := some 108) (Nj := some 19) #[true, true, true, true, true, true, true, true, true, true, false, false, false, false, false, false] #[true, true, true, true, true, true, true, true, true, false, false, false, false, true, false, false] rfl rfl rfl rfl (two_of HT_.out (by kernel_rfl)) (by decide) (by decide) (fun K hK => ?_) (fun K hK => ?_)
                     ·skip
                      refine goes_ Try.func9 (by kernel_rfl) rfl #[.agg #[.int .i64 a0_0, .int .i64 a0_1, .slice A0_2 l0_2.length c0_2], .int .i64 x1_2, .int .i64 (wrap64 (x2_2 - x17_77)), .slice A89 y237.length c89] (by rfl) rfl rfl gl_ ?_
                      with_reducible refine (block_Cross.calls kj77 a0_0 a0_1 _ _ l0_2 x1_2 (wrap64 (x2_2 - x17_77)) _ _ y237 t241 t242 t243 t244 t245 t248 _ ?side1 ?side2 ?side3 ?side4 A83.out).mono ?_
                      (case side1 => exact ck_ (Kd.C_below HR0_2.out HB.out))
                      (case side2 => exact HC0_2.out)
                      (case side3 => repeat (first | exact (by repeat (first | (with_reducible exact HR240.out) | (with_reducible refine Kd.C_alloc ?_ _) | (with_reducible refine Kd.C_drewN ?_ _) | (with_reducible refine Kd.C_drew ?_) | exact HR240.out)) | (with_reducible refine Kd.C_alloc ?_ _) | (with_reducible refine Kd.C_drewN ?_ _) | (with_reducible refine Kd.C_drew ?_)))
                      (case side4 => exact HC240.out)
                      rintro e w91 ⟨v246, rfl, ho0, hb⟩
                      refine ⟨_, rfl, ?_⟩
                      have n0_ := A_ (Kd.R_elder' (rk_ HO_14.out) (Kd.R_base ho0) hb)
                      have n1_ := A_ (Kd.R_elder' (rk_ HO_230004.out) (Kd.R_base ho0) hb)
                      have n2_ := A_ (Kd.R_lower (Kd.R_new' (Kd.R_new' ho0 (Kd.R_lt (rk_ HO_14.out))) (Kd.R_lt (rk_ HO_230004.out))) (below_size (bk_ HB.out)))
                      have n3_ := A_ (blk_below (pk_ BK216.out) hb)
                      have n4_ := A_ (blk_below (pk_ BK229.out) hb)
                      have n5_ := A_ (Kd.C_below (by repeat (first | (with_reducible exact HR240.out) | (with_reducible refine Kd.C_alloc ?_ _) | (with_reducible refine Kd.C_drewN ?_ _) | (with_reducible refine Kd.C_drew ?_) | exact HR240.out)) hb)
                      have n6_ := A_ (below_step (bk_ HB.out) hb)
                      clear HO_14 HO_230004 BK216 BK229 HR240 HB
                      have HO_14 := n0_
                      have HO_230004 := n1_
                      have HO247 := n2_
                      have BK216 := n3_
                      have BK229 := n4_
                      have HR240 := n5_
                      have HB := n6_
                      clear n0_ n1_ n2_ n3_ n4_ n5_ n6_
                      (try clear hb)
                      (try clear hb2)
                      (try clear hk)
                      (try clear hi)
                      (try clear ho0)
                      refine hK.out _ _ ⟨(blk_cell BK216.out 0).trans rfl, (blk_cell BK216.out 1).trans rfl, (blk_cell BK216.out 2).trans rfl⟩ (fun hHeld => ?_)
                      clear hK K
                      refine norm_ (a' := ?_) ?_ ?_
                      rotate_left
                      ·show Act.put _ (some 108) _ = _
                       simp only [Act.put, sa_, sz_, ss_, i64_w, i32_w]
                       rfl
                      refine pure_ (i := 10) (N := some 98) (v := ?_) (a' := ?_) #[true, true, true, true, true, true, true, true, true, true, true, false, false, false, false, false] rfl rfl (any_of HT_.out (by kernel_rfl)) (fun _ _ _ h => h) (Or.inl ⟨by rfl, ?_⟩) ?_ ?_
                      rotate_left
                      ·intro w'
                       go_simp
                       with_reducible rfl
                      rotate_left
                      ·simp only [Act.put, sa_, sz_, ss_, i64_w, i32_w]
                       rfl
                      refine pure_ (i := 11) (N := some 109) (v := ?_) (a' := ?_) #[true, true, true, true, true, true, true, true, true, true, true, true, false, false, false, false] rfl rfl (any_of HT_.out (by kernel_rfl)) (fun _ _ _ h => h) (Or.inl ⟨by rfl, ?_⟩) ?_ ?_
                      rotate_left
                      ·intro w'
                       go_simp
                       with_reducible rfl
                      rotate_left
                      ·simp only [Act.put, sa_, sz_, ss_, i64_w, i32_w]
                       rfl
                      refine pure_ (i := 12) (N := some 110) (v := ?_) (a' := ?_) #[true, true, true, true, true, true, true, true, true, true, true, true, true, false, false, false] rfl rfl (any_of HT_.out (by kernel_rfl)) (fun _ _ _ h => h) (Or.inl ⟨by rfl, ?_⟩) ?_ ?_
                      rotate_left
                      ·intro w'
                       go_simp
                       with_reducible rfl
                      rotate_left
                      ·simp only [Act.put, sa_, sz_, ss_, i64_w, i32_w]
                       rfl
                      refine one_ (i := 13) (N := some 19) #[true, true, true, true, true, true, true, true, true, true, true, true, true, true, false, false] rfl rfl (one_of HT_.out (by kernel_rfl)) (by decide) (fun K hK => ?_)
                      refine box_step ?hg (N := 19) ?hd (cs := #[.int .i64 0, .int .i64 0, .int .i64 0, .int .i64 0, .slice none 0 0]) (t := 29) ?hr ?_; (case hd => rfl); (case hg => rfl); (case hr => first | (go_simp; done) | (go_simp; rfl))
                      intro gb249 hg w92 hbox hb
                      have n0_ := A_ (Kd.R_below (rk_ HO_14.out) hb)
                      have n1_ := A_ (Kd.R_below (rk_ HO_230004.out) hb)
                      have n2_ := A_ (Kd.R_below (rk_ HO247.out) hb)
                      have n3_ := A_ (blk_below (pk_ BK216.out) hb)
                      have n4_ := A_ (blk_below (pk_ BK229.out) hb)
                      have n5_ := A_ (Kd.C_below (by repeat (first | (with_reducible exact HR240.out) | (with_reducible refine Kd.C_alloc ?_ _) | (with_reducible refine Kd.C_drewN ?_ _) | (with_reducible refine Kd.C_drew ?_) | exact HR240.out)) hb)
                      have n6_ := A_ (below_step (bk_ HB.out) hb)
                      have n7_ := A_ (hbox)
                      have n8_ := A_ ((by rw [hg]; exact (below_size (bk_ HB.out)) : w.heap.size ≤ gb249))
                      have n9_ := A_ ((by rw [hg]; exact (below_size (bk_ HB.out)) : w.heap.size ≤ gb249))
                      have n10_ := A_ ((by rw [hg]; exact Nat.ne_of_lt (blk_lt (pk_ BK216.out)) : gb216 ≠ gb249))
                      have n11_ := A_ ((by rw [hg]; exact Nat.ne_of_gt (blk_lt (pk_ BK216.out)) : gb249 ≠ gb216))
                      have n12_ := A_ ((by rw [hg]; exact Nat.ne_of_lt (blk_lt (pk_ BK229.out)) : gb229 ≠ gb249))
                      have n13_ := A_ ((by rw [hg]; exact Nat.ne_of_gt (blk_lt (pk_ BK229.out)) : gb249 ≠ gb229))
                      clear HO_14 HO_230004 HO247 BK216 BK229 HR240 HB
                      have HO_14 := n0_
                      have HO_230004 := n1_
                      have HO247 := n2_
                      have BK216 := n3_
                      have BK229 := n4_
                      have HR240 := n5_
                      have HB := n6_
                      have BK249 := n7_
                      have GW249 := n8_
                      have GE249 := n9_
                      have NB216_249 := n10_
                      have NB249_216 := n11_
                      have NB229_249 := n12_
                      have NB249_229 := n13_
                      clear n0_ n1_ n2_ n3_ n4_ n5_ n6_ n7_ n8_ n9_ n10_ n11_ n12_ n13_ hb hbox hg
                      refine hK.out _ _ ⟨(blk_cell BK216.out 0).trans rfl, (blk_cell BK216.out 1).trans rfl, (blk_cell BK216.out 2).trans rfl⟩ (fun hHeld => ?_)
                      clear hK K
                      refine norm_ (a' := ?_) ?_ ?_
                      rotate_left
                      ·show Act.put _ (some 19) _ = _
                       simp only [Act.put, sa_, sz_, ss_, i64_w, i32_w]
                       rfl
                      exact norm_ (by simp only [putAll, Act.put, List.setIfInBounds_toArray, List.set_cons_zero, List.set_cons_succ]) (hCont (v246, gb249) _ ⟨hHeld, (by (with_reducible repeat (first | apply Kd.R_alloc | apply Kd.R_drewN | apply Kd.R_drew)); exact Kd.R_mono HO247.out (fun _ hk => ⟨hk.1.2, hk.2⟩)), (by (with_reducible repeat (first | apply Kd.R_alloc | apply Kd.R_drewN | apply Kd.R_drew)); exact Kd.R_mono HO_14.out (fun _ hk => ⟨hk.2, hk.1⟩)), (by (with_reducible repeat (first | apply Kd.R_alloc | apply Kd.R_drewN | apply Kd.R_drew)); exact Kd.R_mono HO_230004.out (fun _ hk => ⟨hk.2, hk.1⟩)), (pk_ BK216.out), (pk_ BK229.out), (pk_ BK249.out), GW249.out, GE249.out, NB216_249.out, NB249_216.out, NB229_249.out, NB249_229.out, (bk_ HB.out)⟩)
                     ·skip
                      refine box_step ?hg (N := 19) ?hd (cs := #[.int .i64 0, .int .i64 0, .int .i64 0, .int .i64 0, .slice none 0 0]) (t := 29) ?hr ?_; (case hd => rfl); (case hg => rfl); (case hr => first | (go_simp; done) | (go_simp; rfl))
                      intro gb249 hg w91 hbox hb
                      have n0_ := A_ (Kd.R_below (rk_ HO_14.out) hb)
                      have n1_ := A_ (Kd.R_below (rk_ HO_230004.out) hb)
                      have n2_ := A_ (blk_below (pk_ BK216.out) hb)
                      have n3_ := A_ (blk_below (pk_ BK229.out) hb)
                      have n4_ := A_ (Kd.C_below (by repeat (first | (with_reducible exact HR240.out) | (with_reducible refine Kd.C_alloc ?_ _) | (with_reducible refine Kd.C_drewN ?_ _) | (with_reducible refine Kd.C_drew ?_) | exact HR240.out)) hb)
                      have n5_ := A_ (below_step (bk_ HB.out) hb)
                      have n6_ := A_ (hbox)
                      have n7_ := A_ ((by rw [hg]; exact (below_size (bk_ HB.out)) : w.heap.size ≤ gb249))
                      have n8_ := A_ ((by rw [hg]; exact (below_size (bk_ HB.out)) : w.heap.size ≤ gb249))
                      have n9_ := A_ ((by rw [hg]; exact Nat.ne_of_lt (blk_lt (pk_ BK216.out)) : gb216 ≠ gb249))
                      have n10_ := A_ ((by rw [hg]; exact Nat.ne_of_gt (blk_lt (pk_ BK216.out)) : gb249 ≠ gb216))
                      have n11_ := A_ ((by rw [hg]; exact Nat.ne_of_lt (blk_lt (pk_ BK229.out)) : gb229 ≠ gb249))
                      have n12_ := A_ ((by rw [hg]; exact Nat.ne_of_gt (blk_lt (pk_ BK229.out)) : gb249 ≠ gb229))
                      clear HO_14 HO_230004 BK216 BK229 HR240 HB
                      have HO_14 := n0_
                      have HO_230004 := n1_
                      have BK216 := n2_
                      have BK229 := n3_
                      have HR240 := n4_
                      have HB := n5_
                      have BK249 := n6_
                      have GW249 := n7_
                      have GE249 := n8_
                      have NB216_249 := n9_
                      have NB249_216 := n10_
                      have NB229_249 := n11_
                      have NB249_229 := n12_
                      clear n0_ n1_ n2_ n3_ n4_ n5_ n6_ n7_ n8_ n9_ n10_ n11_ n12_ hb hbox hg
                      refine hK.out _ _ ⟨(blk_cell BK216.out 0).trans rfl, (blk_cell BK216.out 1).trans rfl, (blk_cell BK216.out 2).trans rfl⟩ (fun hHeld => ?_)
                      clear hK K
                      refine norm_ (a' := ?_) ?_ ?_
                      rotate_left
                      ·show Act.put _ (some 19) _ = _
                       simp only [Act.put, sa_, sz_, ss_, i64_w, i32_w]
                       rfl
                      refine one_ (i := 9) (N := some 108) #[true, true, true, true, true, true, true, true, true, true, false, false, false, true, false, false] rfl rfl (one_of HT_.out (by kernel_rfl)) (by decide) (fun K hK => ?_)
                      refine goes_ Try.func9 (by kernel_rfl) rfl #[.agg #[.int .i64 a0_0, .int .i64 a0_1, .slice A0_2 l0_2.length c0_2], .int .i64 x1_2, .int .i64 (wrap64 (x2_2 - x17_77)), .slice A89 y237.length c89] (by rfl) rfl rfl gl_ ?_
                      with_reducible refine (block_Cross.calls kj77 a0_0 a0_1 _ _ l0_2 x1_2 (wrap64 (x2_2 - x17_77)) _ _ y237 t241 t242 t243 t244 t245 t248 _ ?side1 ?side2 ?side3 ?side4 A83.out).mono ?_
                      (case side1 => exact ck_ (Kd.C_below HR0_2.out HB.out))
                      (case side2 => exact HC0_2.out)
                      (case side3 => repeat (first | exact (by repeat (first | (with_reducible exact HR240.out) | (with_reducible refine Kd.C_alloc ?_ _) | (with_reducible refine Kd.C_drewN ?_ _) | (with_reducible refine Kd.C_drew ?_) | exact HR240.out)) | (with_reducible refine Kd.C_alloc ?_ _) | (with_reducible refine Kd.C_drewN ?_ _) | (with_reducible refine Kd.C_drew ?_)))
                      (case side4 => exact HC240.out)
                      rintro e w92 ⟨v246, rfl, ho0, hb⟩
                      refine ⟨_, rfl, ?_⟩
                      have n0_ := A_ (Kd.R_elder' (rk_ HO_14.out) (Kd.R_base ho0) hb)
                      have n1_ := A_ (Kd.R_elder' (rk_ HO_230004.out) (Kd.R_base ho0) hb)
                      have n2_ := A_ (Kd.R_lower (Kd.R_new' (Kd.R_new' ho0 (Kd.R_lt (rk_ HO_14.out))) (Kd.R_lt (rk_ HO_230004.out))) (below_size (bk_ HB.out)))
                      have n3_ := A_ (blk_below (pk_ BK216.out) hb)
                      have n4_ := A_ (blk_below (pk_ BK229.out) hb)
                      have n5_ := A_ (Kd.C_below (by repeat (first | (with_reducible exact HR240.out) | (with_reducible refine Kd.C_alloc ?_ _) | (with_reducible refine Kd.C_drewN ?_ _) | (with_reducible refine Kd.C_drew ?_) | exact HR240.out)) hb)
                      have n6_ := A_ (blk_below (pk_ BK249.out) hb)
                      have n7_ := A_ (below_step (bk_ HB.out) hb)
                      clear HO_14 HO_230004 BK216 BK229 HR240 BK249 HB
                      have HO_14 := n0_
                      have HO_230004 := n1_
                      have HO247 := n2_
                      have BK216 := n3_
                      have BK229 := n4_
                      have HR240 := n5_
                      have BK249 := n6_
                      have HB := n7_
                      clear n0_ n1_ n2_ n3_ n4_ n5_ n6_ n7_
                      (try clear hb)
                      (try clear hb2)
                      (try clear hk)
                      (try clear hi)
                      (try clear ho0)
                      refine hK.out _ _ ⟨(blk_cell BK216.out 0).trans rfl, (blk_cell BK216.out 1).trans rfl, (blk_cell BK216.out 2).trans rfl⟩ (fun hHeld => ?_)
                      clear hK K
                      refine norm_ (a' := ?_) ?_ ?_
                      rotate_left
                      ·show Act.put _ (some 108) _ = _
                       simp only [Act.put, sa_, sz_, ss_, i64_w, i32_w]
                       rfl
                      refine pure_ (i := 10) (N := some 98) (v := ?_) (a' := ?_) #[true, true, true, true, true, true, true, true, true, true, true, false, false, true, false, false] rfl rfl (any_of HT_.out (by kernel_rfl)) (fun _ _ _ h => h) (Or.inl ⟨by rfl, ?_⟩) ?_ ?_
                      rotate_left
                      ·intro w'
                       go_simp
                       with_reducible rfl
                      rotate_left
                      ·simp only [Act.put, sa_, sz_, ss_, i64_w, i32_w]
                       rfl
                      refine pure_ (i := 11) (N := some 109) (v := ?_) (a' := ?_) #[true, true, true, true, true, true, true, true, true, true, true, true, false, true, false, false] rfl rfl (any_of HT_.out (by kernel_rfl)) (fun _ _ _ h => h) (Or.inl ⟨by rfl, ?_⟩) ?_ ?_
                      rotate_left
                      ·intro w'
                       go_simp
                       with_reducible rfl
                      rotate_left
                      ·simp only [Act.put, sa_, sz_, ss_, i64_w, i32_w]
                       rfl
                      refine pure_ (i := 12) (N := some 110) (v := ?_) (a' := ?_) #[true, true, true, true, true, true, true, true, true, true, true, true, true, true, false, false] rfl rfl (any_of HT_.out (by kernel_rfl)) (fun _ _ _ h => h) (Or.inl ⟨by rfl, ?_⟩) ?_ ?_
                      rotate_left
                      ·intro w'
                       go_simp
                       with_reducible rfl
                      rotate_left
                      ·simp only [Act.put, sa_, sz_, ss_, i64_w, i32_w]
                       rfl
                      exact norm_ (by simp only [putAll, Act.put, List.setIfInBounds_toArray, List.set_cons_zero, List.set_cons_succ]) (hCont (v246, gb249) _ ⟨hHeld, (by (with_reducible repeat (first | apply Kd.R_alloc | apply Kd.R_drewN | apply Kd.R_drew)); exact Kd.R_mono HO247.out (fun _ hk => ⟨hk.1.2, hk.2⟩)), (by (with_reducible repeat (first | apply Kd.R_alloc | apply Kd.R_drewN | apply Kd.R_drew)); exact Kd.R_mono HO_14.out (fun _ hk => ⟨hk.2, hk.1⟩)), (by (with_reducible repeat (first | apply Kd.R_alloc | apply Kd.R_drewN | apply Kd.R_drew)); exact Kd.R_mono HO_230004.out (fun _ hk => ⟨hk.2, hk.1⟩)), (pk_ BK216.out), (pk_ BK229.out), (pk_ BK249.out), GW249.out, GE249.out, NB216_249.out, NB249_216.out, NB229_249.out, NB249_229.out, (bk_ HB.out)⟩)
                    rintro ⟨v246, gb249⟩ w93 ⟨hS_, h0_, h1_, h2_, h3_, h4_, h5_, h6_, h7_, h8_, h9_, h10_, h11_, h12_⟩
                    have n0_ : Aside0 (Kd.R (Kd.int .i64) 3 w93 w.heap.size (fun k_ => some k_ ≠ (.slice Ao90 x14_2.length co90 : Value).ownBlock ∧ some k_ ≠ (.slice Ao69 t225.length co69 : Value).ownBlock) v246 t245) := ⟨h0_⟩
                    have n1_ : Aside0 (Kd.R (Kd.int .i64) 3 w93 w.heap.size (fun k_ => some k_ ≠ (v246 : Value).ownBlock ∧ some k_ ≠ (.slice Ao69 t225.length co69 : Value).ownBlock) (.slice Ao90 x14_2.length co90) x14_2) := ⟨h1_⟩
                    have n2_ : Aside0 (Kd.R (Kd.int .i64) 3 w93 w.heap.size (fun k_ => some k_ ≠ (v246 : Value).ownBlock ∧ some k_ ≠ (.slice Ao90 x14_2.length co90 : Value).ownBlock) (.slice Ao69 t225.length co69) t225) := ⟨h2_⟩
                    have n3_ : Aside0 (w93.heap[gb216]? = some (.cells #[.int .i64 a0_0, .int .i64 a0_1, .slice A0_2 l0_2.length c0_2] 24 (0, 0))) := ⟨h3_⟩
                    have n4_ : Aside0 (w93.heap[gb229]? = some (.cells #[.int .i64 t221, .int .i64 t222, .int .i64 t223, .int .i64 t224, .slice Ao69 t225.length co69] 29 (0, 0))) := ⟨h4_⟩
                    have n5_ : Aside0 (w93.heap[gb249]? = some (.cells #[.int .i64 0, .int .i64 0, .int .i64 0, .int .i64 0, .slice none 0 0] 29 (0, 0))) := ⟨h5_⟩
                    have n6_ : Aside0 (w.heap.size ≤ gb249) := ⟨h6_⟩
                    have n7_ : Aside0 (w.heap.size ≤ gb249) := ⟨h7_⟩
                    have n8_ : Aside0 (gb216 ≠ gb249) := ⟨h8_⟩
                    have n9_ : Aside0 (gb249 ≠ gb216) := ⟨h9_⟩
                    have n10_ : Aside0 (gb229 ≠ gb249) := ⟨h10_⟩
                    have n11_ : Aside0 (gb249 ≠ gb229) := ⟨h11_⟩
                    have n12_ : Aside0 (Below w.heap.size w w93) := ⟨h12_⟩
                    clear HO_14 HO_230004 BK216 BK229 HB h0_ h1_ h2_ h3_ h4_ h5_ h6_ h7_ h8_ h9_ h10_ h11_ h12_
                    have HO247 := n0_
                    have HO_14 := n1_
                    have HO_230004 := n2_
                    have BK216 := n3_
                    have BK229 := n4_
                    have BK249 := n5_
                    have GW249 := n6_
                    have GE249 := n7_
                    have NB216_249 := n8_
                    have NB249_216 := n9_
                    have NB229_249 := n10_
                    have NB249_229 := n11_
                    have HB := n12_
                    clear n0_ n1_ n2_ n3_ n4_ n5_ n6_ n7_ n8_ n9_ n10_ n11_ n12_
                    have hHeld : w93.cell? ⟨gb216, 0, none⟩ = some (.int .i64 a0_0) ∧ w93.cell? ⟨gb216, 1, none⟩ = some (.int .i64 a0_1) ∧ w93.cell? ⟨gb216, 2, none⟩ = some (.slice A0_2 l0_2.length c0_2) := hS_
                    obtain ⟨Ao98, co98, eo98⟩ := Kd.R_slice HO247.out
                    (first | subst eo98 | (injection eo98 with f1_ f2_ f3_; have f4_ := f1_.symm; have f5_ := f3_.symm; clear f1_ f2_ f3_; subst f4_; subst f5_))
                    refine norm_ (a' := ?_) ?_ ?_
                    rotate_left
                    ·simp only [putAll, Act.put, List.setIfInBounds_toArray, List.set_cons_zero, List.set_cons_succ]
                     rfl
                    refine one_ (i := 14) (N := none) #[true, true, true, true, true, true, true, true, true, true, true, true, true, true, true, false] rfl rfl (one_of HT_.out (by kernel_rfl)) (by decide) (fun K hK => ?_)
                    have hs94 : w93.cell? ⟨gb249, 0, none⟩ = some (.int .i64 0) := (blk_cell BK249.out 0).trans rfl
                    have hfs94 := blk_frozen BK249.out 0
                    have hns94_0 := NB216_249.out
                    have hns94_1 := NB229_249.out
                    have hms94_0 := NB249_216.out
                    have hms94_1 := NB249_229.out
                    have hs95 : w93.cell? ⟨gb249, 1, none⟩ = some (.int .i64 0) := (blk_cell BK249.out 1).trans rfl
                    have hfs95 := blk_frozen BK249.out 1
                    have hns95_0 := NB216_249.out
                    have hns95_1 := NB229_249.out
                    have hms95_0 := NB249_216.out
                    have hms95_1 := NB249_229.out
                    have hs96 : w93.cell? ⟨gb249, 2, none⟩ = some (.int .i64 0) := (blk_cell BK249.out 2).trans rfl
                    have hfs96 := blk_frozen BK249.out 2
                    have hns96_0 := NB216_249.out
                    have hns96_1 := NB229_249.out
                    have hms96_0 := NB249_216.out
                    have hms96_1 := NB249_229.out
                    have hs97 : w93.cell? ⟨gb249, 3, none⟩ = some (.int .i64 0) := (blk_cell BK249.out 3).trans rfl
                    have hfs97 := blk_frozen BK249.out 3
                    have hns97_0 := NB216_249.out
                    have hns97_1 := NB229_249.out
                    have hms97_0 := NB249_216.out
                    have hms97_1 := NB249_229.out
                    have hs99 : w93.cell? ⟨gb249, 4, none⟩ = some (.slice none 0 0) := (blk_cell BK249.out 4).trans rfl
                    have hfs99 := blk_frozen BK249.out 4
                    have hns99_0 := NB216_249.out
                    have hns99_1 := NB229_249.out
                    have hms99_0 := NB249_216.out
                    have hms99_1 := NB249_229.out
                    refine skip_ (w1 := ?_) (by rfl) rfl ?_ ?_
                    rotate_left
                    ·go_simp
                     rfl
                    refine hK.out _ _ ⟨((cell_far (p := ⟨gb249, _, none⟩) NB216_249.out _).trans (((cell_far (p := ⟨gb249, _, none⟩) NB216_249.out _).trans (((cell_far (p := ⟨gb249, _, none⟩) NB216_249.out _).trans (((cell_far (p := ⟨gb249, _, none⟩) NB216_249.out _).trans (((cell_far (p := ⟨gb249, _, none⟩) NB216_249.out _).trans (hHeld.1)))))))))), ((cell_far (p := ⟨gb249, _, none⟩) NB216_249.out _).trans (((cell_far (p := ⟨gb249, _, none⟩) NB216_249.out _).trans (((cell_far (p := ⟨gb249, _, none⟩) NB216_249.out _).trans (((cell_far (p := ⟨gb249, _, none⟩) NB216_249.out _).trans (((cell_far (p := ⟨gb249, _, none⟩) NB216_249.out _).trans (hHeld.2.1)))))))))), ((cell_far (p := ⟨gb249, _, none⟩) NB216_249.out _).trans (((cell_far (p := ⟨gb249, _, none⟩) NB216_249.out _).trans (((cell_far (p := ⟨gb249, _, none⟩) NB216_249.out _).trans (((cell_far (p := ⟨gb249, _, none⟩) NB216_249.out _).trans (((cell_far (p := ⟨gb249, _, none⟩) NB216_249.out _).trans (hHeld.2.2))))))))))⟩ (fun hHeld => ?_)
                    clear hK K
                    refine pure_ (i := 15) (N := some 20) (v := ?_) (a' := ?_) #[true, true, true, true, true, true, true, true, true, true, true, true, true, true, true, true] rfl rfl (any_of HT_.out (by kernel_rfl)) (fun _ _ _ h => h) (Or.inl ⟨by rfl, ?_⟩) ?_ ?_
                    rotate_left
                    ·intro w'
                     go_simp
                     with_reducible rfl
                    rotate_left
                    ·simp only [Act.put, sa_, sz_, ss_, i64_w, i32_w]
                     rfl
                    refine done_ (done_of HT_.out (by kernel_rfl)) ?_
                    have hnb100 := NB249_216.out
                    have hnc100 := NB216_249.out
                    have hnb101 := NB249_229.out
                    have hnc101 := NB229_249.out
                    have hcz102_0 : w93.cell? ⟨gb249, 0, none⟩ = some (.int .i64 0) := (blk_cell BK249.out 0).trans rfl
                    have hcz102_1 : w93.cell? ⟨gb249, 1, none⟩ = some (.int .i64 0) := (blk_cell BK249.out 1).trans rfl
                    have hcz102_2 : w93.cell? ⟨gb249, 2, none⟩ = some (.int .i64 0) := (blk_cell BK249.out 2).trans rfl
                    have hcz102_3 : w93.cell? ⟨gb249, 3, none⟩ = some (.int .i64 0) := (blk_cell BK249.out 3).trans rfl
                    have hcz102_4 : w93.cell? ⟨gb249, 4, none⟩ = some (.slice none 0 0) := (blk_cell BK249.out 4).trans rfl
                    have hfz102_0 := blk_frozen BK249.out 0
                    have hfz102_1 := blk_frozen BK249.out 1
                    have hfz102_2 := blk_frozen BK249.out 2
                    have hfz102_3 := blk_frozen BK249.out 3
                    have hfz102_4 := blk_frozen BK249.out 4
                    have hnb103 := NB229_216.out
                    have hnc103 := NB216_229.out
                    have hcz104_0 : w93.cell? ⟨gb229, 0, none⟩ = some (.int .i64 t221) := (blk_cell BK229.out 0).trans rfl
                    have hcz104_1 : w93.cell? ⟨gb229, 1, none⟩ = some (.int .i64 t222) := (blk_cell BK229.out 1).trans rfl
                    have hcz104_2 : w93.cell? ⟨gb229, 2, none⟩ = some (.int .i64 t223) := (blk_cell BK229.out 2).trans rfl
                    have hcz104_3 : w93.cell? ⟨gb229, 3, none⟩ = some (.int .i64 t224) := (blk_cell BK229.out 3).trans rfl
                    have hcz104_4 : w93.cell? ⟨gb229, 4, none⟩ = some (.slice Ao69 t225.length co69) := (blk_cell BK229.out 4).trans rfl
                    have hfz104_0 := blk_frozen BK229.out 0
                    have hfz104_1 := blk_frozen BK229.out 1
                    have hfz104_2 := blk_frozen BK229.out 2
                    have hfz104_3 := blk_frozen BK229.out 3
                    have hfz104_4 := blk_frozen BK229.out 4
                    try go_wp2_with (first | (go_at_call 8; (with_reducible refine (standstilllaw05_awake.calls kj77  t250 _ A87.out).mono ?_); rintro e w105 ⟨rfl, hb⟩; have n0_ := A_ (Kd.R_below (by (with_reducible repeat (first | apply Kd.R_alloc | apply Kd.R_drewN | apply Kd.R_drew)); exact (Kd.R_mono (Kd.R_far (p := ⟨gb249, 4, none⟩) (Kd.R_far (p := ⟨gb249, 3, none⟩) (Kd.R_far (p := ⟨gb249, 2, none⟩) (Kd.R_far (p := ⟨gb249, 1, none⟩) (Kd.R_far (p := ⟨gb249, 0, none⟩) (Kd.R_types HO_14.out BK249.out (by decide)) (fun _ hk => hk.2) (.int .i64 t241)) (fun _ hk => hk.2) (.int .i64 t242)) (fun _ hk => hk.2) (.int .i64 t243)) (fun _ hk => hk.2) (.int .i64 t244)) (fun _ hk => hk.2) (.slice Ao98 t245.length co98)) (fun _ h_ => h_.1))) hb); have n1_ := A_ (Kd.R_below (by (with_reducible repeat (first | apply Kd.R_alloc | apply Kd.R_drewN | apply Kd.R_drew)); exact (Kd.R_mono (Kd.R_far (p := ⟨gb249, 4, none⟩) (Kd.R_far (p := ⟨gb249, 3, none⟩) (Kd.R_far (p := ⟨gb249, 2, none⟩) (Kd.R_far (p := ⟨gb249, 1, none⟩) (Kd.R_far (p := ⟨gb249, 0, none⟩) (Kd.R_types HO_230004.out BK249.out (by decide)) (fun _ hk => hk.2) (.int .i64 t241)) (fun _ hk => hk.2) (.int .i64 t242)) (fun _ hk => hk.2) (.int .i64 t243)) (fun _ hk => hk.2) (.int .i64 t244)) (fun _ hk => hk.2) (.slice Ao98 t245.length co98)) (fun _ h_ => h_.1))) hb); have n2_ := A_ (Kd.R_below (by (with_reducible repeat (first | apply Kd.R_alloc | apply Kd.R_drewN | apply Kd.R_drew)); exact (Kd.R_mono (Kd.R_far (p := ⟨gb249, 4, none⟩) (Kd.R_far (p := ⟨gb249, 3, none⟩) (Kd.R_far (p := ⟨gb249, 2, none⟩) (Kd.R_far (p := ⟨gb249, 1, none⟩) (Kd.R_far (p := ⟨gb249, 0, none⟩) (Kd.R_types HO247.out BK249.out (by decide)) (fun _ hk => hk.2) (.int .i64 t241)) (fun _ hk => hk.2) (.int .i64 t242)) (fun _ hk => hk.2) (.int .i64 t243)) (fun _ hk => hk.2) (.int .i64 t244)) (fun _ hk => hk.2) (.slice Ao98 t245.length co98)) (fun _ h_ => h_.1))) hb); have n3_ := A_ (blk_below (g := gb216) (o := .cells #[.int .i64 a0_0, .int .i64 a0_1, .slice A0_2 l0_2.length c0_2] 24 (0, 0)) (by refine pk_ ?_; refine blk_far ?_ NB216_249.out _; refine pk_ ?_; refine blk_far ?_ NB216_249.out _; refine pk_ ?_; refine blk_far ?_ NB216_249.out _; refine pk_ ?_; refine blk_far ?_ NB216_249.out _; refine pk_ ?_; refine blk_far ?_ NB216_249.out _; exact pk_ BK216.out) hb); have n4_ := A_ (blk_below (g := gb229) (o := .cells #[.int .i64 t221, .int .i64 t222, .int .i64 t223, .int .i64 t224, .slice Ao69 t225.length co69] 29 (0, 0)) (by refine pk_ ?_; refine blk_far ?_ NB229_249.out _; refine pk_ ?_; refine blk_far ?_ NB229_249.out _; refine pk_ ?_; refine blk_far ?_ NB229_249.out _; refine pk_ ?_; refine blk_far ?_ NB229_249.out _; refine pk_ ?_; refine blk_far ?_ NB229_249.out _; exact pk_ BK229.out) hb); have n5_ := A_ (blk_below (g := gb249) (o := .cells #[.int .i64 t241, .int .i64 t242, .int .i64 t243, .int .i64 t244, .slice Ao98 t245.length co98] 29 (0, 0)) (by refine pk_ ?_; refine blk_put (cs := #[.int .i64 t241, .int .i64 t242, .int .i64 t243, .int .i64 t244, .slice none 0 0]) ?_ 4 _ rfl; refine pk_ ?_; refine blk_put (cs := #[.int .i64 t241, .int .i64 t242, .int .i64 t243, .int .i64 0, .slice none 0 0]) ?_ 3 _ rfl; refine pk_ ?_; refine blk_put (cs := #[.int .i64 t241, .int .i64 t242, .int .i64 0, .int .i64 0, .slice none 0 0]) ?_ 2 _ rfl; refine pk_ ?_; refine blk_put (cs := #[.int .i64 t241, .int .i64 0, .int .i64 0, .int .i64 0, .slice none 0 0]) ?_ 1 _ rfl; refine pk_ ?_; refine blk_put (cs := #[.int .i64 0, .int .i64 0, .int .i64 0, .int .i64 0, .slice none 0 0]) ?_ 0 _ rfl; exact pk_ BK249.out) hb); have n6_ := A_ (below_step (bk_ HB.out) hb); clear HO_14 HO_230004 HO247 BK216 BK229 BK249 HB; have HO_14 := n0_; have HO_230004 := n1_; have HO247 := n2_; have BK216 := n3_; have BK229 := n4_; have BK249 := n5_; have HB := n6_; clear n0_ n1_ n2_ n3_ n4_ n5_ n6_; (try clear hb); (try clear hb2); (try clear hk); (try clear hi)))
                    go_ret
                    exact ⟨er_, bk_ HB.out⟩
                   ·rw [if_neg c86] at H
                    exact absurd H (by simp)
                  ·rw [if_neg c85] at H
                   have c85b0 : (t241 == 3) = false := beq_eq_false_iff_ne.mpr c85
                   have c85b1 : (t241 != 3) = true := bne_iff_ne.mpr c85
                   have HC106 := Aside0.mk H
                   clear H
                   try go_wp2
                   have n0_ := A_ (Kd.R_drew HO_14.out)
                   have n1_ := A_ (Kd.R_drew HO_230004.out)
                   have n2_ := A_ (blk_drew BK216.out)
                   have n3_ := A_ (blk_drew BK229.out)
                   have n4_ := A_ (below_drew1 HB.out)
                   clear HO_14 HO_230004 BK216 BK229 HB
                   have HO_14 := n0_
                   have HO_230004 := n1_
                   have BK216 := n2_
                   have BK229 := n3_
                   have HB := n4_
                   clear n0_ n1_ n2_ n3_ n4_
                   obtain ⟨Ao109, co109, eo109⟩ := Kd.R_slice HO_14.out
                   (first | subst eo109 | (injection eo109 with f1_ f2_ f3_; have f4_ := f1_.symm; have f5_ := f3_.symm; clear f1_ f2_ f3_; subst f4_; subst f5_))
                   have q108 : (x18_77 : Int) ≤ ((x14_2.length : Int) : Int) := od_
                   obtain ⟨i0108, hi0108, _, hsz108, _⟩ := info_parts info3
                   have hroom108 : x14_2.length ≤ co109 := (Kd.R_reads' HO_14.out).2.1
                   have hC108 : Kd.C (Kd.int .i64) _ Ao109 x14_2.length x14_2 := (Kd.R_reads' HO_14.out).2.2
                   have ql108 : (x17_77 : Int) ≤ (x18_77 : Int) := od_
                   have q0108 : (0 : Int) ≤ (x17_77 : Int) := od_
                   have hcut108 := cut_mid (P := Try.prog) 25 3 .i64 .i64 Try.underlying25 hi0108 1 hsz108 Ao109 x14_2.length co109 x17_77 x18_77 q0108 ql108 q108 hroom108
                   have hr108 := Kd.C_mid (lo := (x17_77 : Int).toNat) (hi := (x18_77 : Int).toNat) (c := co109) hC108 (by omega) (by omega) hroom108
                   obtain ⟨A108, hA108⟩ : ∃ A1, A1 = (if co109 = (x17_77 : Int).toNat then Ao109 else (Ao109 : Option Addr).map (·.add ((x17_77 : Int).toNat * 1))) := ⟨_, rfl⟩
                   obtain ⟨c108, hc108⟩ : ∃ c1, c1 = co109 - (x17_77 : Int).toNat := ⟨_, rfl⟩
                   have hy108 : y237.length = (x18_77 : Int).toNat - (x17_77 : Int).toNat := (by rw [Ny237.out, List.length_drop, List.length_take] <;> omega)
                   rw [show ((x14_2).take (x18_77 : Int).toNat).drop (x17_77 : Int).toNat = y237 from Ny237.out.symm] at hr108
                   replace hr108 : Kd.C (Kd.int .i64) _ A108 y237.length y237 := (by rw [hA108]; exact hr108)
                   rw [← hy108, ← hA108, ← hc108] at hcut108
                   have HR240 := Aside0.mk hr108
                   have HC240 := A_ (show y237.length ≤ c108 from by rw [hy108, hc108]; exact Nat.sub_le_sub_right (Nat.le_trans (by omega) hroom108) _)
                   clear hr108 hC108 hroom108 hi0108 hsz108 hc108
                   have KY108 := Aside0.mk hy108
                   have KA108 := Aside0.mk hA108
                   clear hy108 hA108
                   have KL108 := A_ (show (x18_77 : Int).toNat ≤ x14_2.length from by omega)
                   have KM108 := A_ (show (x17_77 : Int).toNat ≤ (x18_77 : Int).toNat from by omega)
                   replace q108 := eq_true q108
                   refine start_ (n := 16) (S := fun w' => w'.cell? ⟨gb216, 0, none⟩ = some (.int .i64 a0_0) ∧ w'.cell? ⟨gb216, 1, none⟩ = some (.int .i64 a0_1) ∧ w'.cell? ⟨gb216, 2, none⟩ = some (.slice A0_2 l0_2.length c0_2)) (ds := []) #[false, false, false, false, false, false, false, false, false, false, false, false, false, false, false, false] (by kernel_rfl) rfl rfl ⟨(blk_cell BK216.out 0).trans rfl, (blk_cell BK216.out 1).trans rfl, (blk_cell BK216.out 2).trans rfl⟩ (fun hHeld => ?_); refine with_tabW standstilllaw05_BlockParts.tab14 standstilllaw05_BlockParts.bits14 (fun HT_ HW_ => ?_)
                   generalize wc.drew = w107 at HO_14 HO_230004 BK216 BK229 HB HR240 hHeld ⊢
                   refine pure_ (i := 1) (N := some 100) (v := ?_) (a' := ?_) #[false, true, false, false, false, false, false, false, false, false, false, false, false, false, false, false] rfl rfl (any_of HT_.out (by kernel_rfl)) (fun _ _ _ h => h) (Or.inl ⟨by rfl, ?_⟩) ?_ ?_
                   rotate_left
                   ·intro w'
                    go_simp
                    with_reducible rfl
                   rotate_left
                   ·simp only [Act.put, sa_, sz_, ss_, i64_w, i32_w]
                    rfl
                   refine pure_ (i := 2) (N := some 101) (v := ?_) (a' := ?_) #[false, true, true, false, false, false, false, false, false, false, false, false, false, false, false, false] rfl rfl (any_of HT_.out (by kernel_rfl)) (fun _ _ _ h => h) (Or.inl ⟨by rfl, ?_⟩) ?_ ?_
                   rotate_left
                   ·intro w'
                    go_simp
                    with_reducible rfl
                   rotate_left
                   ·simp only [Act.put, sa_, sz_, ss_, i64_w, i32_w]
                    rfl
                   refine pure_ (i := 3) (N := some 102) (v := ?_) (a' := ?_) #[false, true, true, true, false, false, false, false, false, false, false, false, false, false, false, false] rfl rfl (any_of HT_.out (by kernel_rfl)) (fun _ _ _ h => h) (Or.inl ⟨by rfl, ?_⟩) ?_ ?_
                   rotate_left
                   ·intro w'
                    go_simp
                    with_reducible rfl
                   rotate_left
                   ·simp only [Act.put, sa_, sz_, ss_, i64_w, i32_w]
                    rfl
                   refine pure_ (i := 4) (N := some 103) (v := ?_) (a' := ?_) #[false, true, true, true, true, false, false, false, false, false, false, false, false, false, false, false] rfl rfl (any_of HT_.out (by kernel_rfl)) (fun _ _ _ h => h) (Or.inl ⟨by rfl, ?_⟩) ?_ ?_
                   rotate_left
                   ·intro w'
                    go_simp
                    with_reducible rfl
                   rotate_left
                   ·simp only [Act.put, sa_, sz_, ss_, i64_w, i32_w]
                    rfl
                   refine pure_ (i := 5) (N := some 104) (v := ?_) (a' := ?_) #[false, true, true, true, true, true, false, false, false, false, false, false, false, false, false, false] rfl rfl (any_of HT_.out (by kernel_rfl)) (fun _ _ _ h => h) (Or.inl ⟨by rfl, ?_⟩) ?_ ?_
                   rotate_left
                   ·intro w'
                    go_simp
                    with_reducible rfl
                   rotate_left
                   ·simp only [Act.put, sa_, sz_, ss_, i64_w, i32_w]
                    rfl
                   refine pure_ (i := 6) (N := some 105) (v := ?_) (a' := ?_) #[false, true, true, true, true, true, true, false, false, false, false, false, false, false, false, false] rfl rfl (any_of HT_.out (by kernel_rfl)) (fun _ _ _ h => h) (Or.inl ⟨by rfl, ?_⟩) ?_ ?_
                   rotate_left
                   ·intro w'
                    go_simp
                    with_reducible rfl
                   rotate_left
                   ·simp only [Act.put, sa_, sz_, ss_, i64_w, i32_w]
                    rfl
                   refine pure_ (i := 7) (N := some 106) (v := ?_) (a' := ?_) #[false, true, true, true, true, true, true, true, false, false, false, false, false, false, false, false] rfl rfl (any_of HT_.out (by kernel_rfl)) (fun _ _ _ h => h) (Or.inl ⟨by rfl, ?_⟩) ?_ ?_
                   rotate_left
                   ·intro w'
                    go_simp
                    with_reducible rfl
                   rotate_left
                   ·simp only [Act.put, sa_, sz_, ss_, i64_w, i32_w]
                    rfl
                   refine pure_ (i := 8) (N := some 107) (v := ?_) (a' := ?_) #[false, true, true, true, true, true, true, true, true, false, false, false, false, false, false, false] rfl rfl (any_of HT_.out (by kernel_rfl)) (fun _ _ _ h => h) (Or.inl ⟨by rfl, ?_⟩) ?_ ?_
                   rotate_left
                   ·intro w'
                    go_simp
                    with_reducible rfl
                   rotate_left
                   ·simp only [Act.put, sa_, sz_, ss_, i64_w, i32_w]
                    rfl
                   refine take_ (i := 0) (N := some 99) (v := ?_) (a' := ?_) #[true, true, true, true, true, true, true, true, true, false, false, false, false, false, false, false] rfl rfl (take_ofW HT_.out HW_.out (by kernel_rfl)) (fun _ _ _ h => h) (Or.inl ⟨by rfl, ?_⟩) hHeld ?_ ?_
                   rotate_left
                   ·rintro w' ⟨s0, s1, s2⟩
                    go_simp
                    with_reducible rfl
                   rotate_left
                   ·simp only [Act.put, sa_, sz_, ss_, i64_w, i32_w]
                    rfl
                   refine join_ (σ := Value × Nat) 2 #[true, true, true, true, true, true, true, true, true, true, true, true, true, true, false, false] (fun s_ => [(108, .tuple #[.agg #[.int .i64 t241, .int .i64 t242, .int .i64 t243, .int .i64 t244, s_.1], .int .i64 t248]), (19, .pointer (some ⟨s_.2, 0, none⟩)), (98, .tuple #[.agg #[.int .i64 t241, .int .i64 t242, .int .i64 t243, .int .i64 t244, s_.1], .int .i64 t248]), (109, .agg #[.int .i64 t241, .int .i64 t242, .int .i64 t243, .int .i64 t244, s_.1]), (110, .int .i64 t248)]) (fun s_ w' => (w'.cell? ⟨gb216, 0, none⟩ = some (.int .i64 a0_0) ∧ w'.cell? ⟨gb216, 1, none⟩ = some (.int .i64 a0_1) ∧ w'.cell? ⟨gb216, 2, none⟩ = some (.slice A0_2 l0_2.length c0_2)) ∧ (Kd.R (Kd.int .i64) 3 w' w.heap.size (fun k_ => some k_ ≠ (.slice Ao109 x14_2.length co109 : Value).ownBlock ∧ some k_ ≠ (.slice Ao69 t225.length co69 : Value).ownBlock) s_.1 t245) ∧ (Kd.R (Kd.int .i64) 3 w' w.heap.size (fun k_ => some k_ ≠ (s_.1 : Value).ownBlock ∧ some k_ ≠ (.slice Ao69 t225.length co69 : Value).ownBlock) (.slice Ao109 x14_2.length co109) x14_2) ∧ (Kd.R (Kd.int .i64) 3 w' w.heap.size (fun k_ => some k_ ≠ (s_.1 : Value).ownBlock ∧ some k_ ≠ (.slice Ao109 x14_2.length co109 : Value).ownBlock) (.slice Ao69 t225.length co69) t225) ∧ (w'.heap[gb216]? = some (.cells #[.int .i64 a0_0, .int .i64 a0_1, .slice A0_2 l0_2.length c0_2] 24 (0, 0))) ∧ (w'.heap[gb229]? = some (.cells #[.int .i64 t221, .int .i64 t222, .int .i64 t223, .int .i64 t224, .slice Ao69 t225.length co69] 29 (0, 0))) ∧ (w'.heap[s_.2]? = some (.cells #[.int .i64 0, .int .i64 0, .int .i64 0, .int .i64 0, .slice none 0 0] 29 (0, 0))) ∧ (w.heap.size ≤ s_.2) ∧ (w.heap.size ≤ s_.2) ∧ (gb216 ≠ s_.2) ∧ (s_.2 ≠ gb216) ∧ (gb229 ≠ s_.2) ∧ (s_.2 ≠ gb229) ∧ (Below w.heap.size w w')) ?_ ?_
                   rotate_left
                   ·intro hCont
                    refine two_ (i := 9) (j := 13) (Ni := some 108) (Nj := some 19) #[true, true, true, true, true, true, true, true, true, true, false, false, false, false, false, false] #[true, true, true, true, true, true, true, true, true, false, false, false, false, true, false, false] rfl rfl rfl rfl (two_of HT_.out (by kernel_rfl)) (by decide) (by decide) (fun K hK => ?_) (fun K hK => ?_)
                    ·skip
                     refine goes_ Try.func9 (by kernel_rfl) rfl #[.agg #[.int .i64 a0_0, .int .i64 a0_1, .slice A0_2 l0_2.length c0_2], .int .i64 x1_2, .int .i64 (wrap64 (x2_2 - x17_77)), .slice A108 y237.length c108] (by rfl) rfl rfl gl_ ?_
                     with_reducible refine (block_Cross.calls kj77 a0_0 a0_1 _ _ l0_2 x1_2 (wrap64 (x2_2 - x17_77)) _ _ y237 t241 t242 t243 t244 t245 t248 _ ?side1 ?side2 ?side3 ?side4 A83.out).mono ?_
                     (case side1 => exact ck_ (Kd.C_below HR0_2.out HB.out))
                     (case side2 => exact HC0_2.out)
                     (case side3 => repeat (first | exact (by repeat (first | (with_reducible exact HR240.out) | (with_reducible refine Kd.C_alloc ?_ _) | (with_reducible refine Kd.C_drewN ?_ _) | (with_reducible refine Kd.C_drew ?_) | exact HR240.out)) | (with_reducible refine Kd.C_alloc ?_ _) | (with_reducible refine Kd.C_drewN ?_ _) | (with_reducible refine Kd.C_drew ?_)))
                     (case side4 => exact HC240.out)
                     rintro e w110 ⟨v246, rfl, ho0, hb⟩
                     refine ⟨_, rfl, ?_⟩
                     have n0_ := A_ (Kd.R_elder' (rk_ HO_14.out) (Kd.R_base ho0) hb)
                     have n1_ := A_ (Kd.R_elder' (rk_ HO_230004.out) (Kd.R_base ho0) hb)
                     have n2_ := A_ (Kd.R_lower (Kd.R_new' (Kd.R_new' ho0 (Kd.R_lt (rk_ HO_14.out))) (Kd.R_lt (rk_ HO_230004.out))) (below_size (bk_ HB.out)))
                     have n3_ := A_ (blk_below (pk_ BK216.out) hb)
                     have n4_ := A_ (blk_below (pk_ BK229.out) hb)
                     have n5_ := A_ (Kd.C_below (by repeat (first | (with_reducible exact HR240.out) | (with_reducible refine Kd.C_alloc ?_ _) | (with_reducible refine Kd.C_drewN ?_ _) | (with_reducible refine Kd.C_drew ?_) | exact HR240.out)) hb)
                     have n6_ := A_ (below_step (bk_ HB.out) hb)
                     clear HO_14 HO_230004 BK216 BK229 HR240 HB
                     have HO_14 := n0_
                     have HO_230004 := n1_
                     have HO247 := n2_
                     have BK216 := n3_
                     have BK229 := n4_
                     have HR240 := n5_
                     have HB := n6_
                     clear n0_ n1_ n2_ n3_ n4_ n5_ n6_
                     (try clear hb)
                     (try clear hb2)
                     (try clear hk)
                     (try clear hi)
                     (try clear ho0)
                     refine hK.out _ _ ⟨(blk_cell BK216.out 0).trans rfl, (blk_cell BK216.out 1).trans rfl, (blk_cell BK216.out 2).trans rfl⟩ (fun hHeld => ?_)
                     clear hK K
                     refine norm_ (a' := ?_) ?_ ?_
                     rotate_left
                     ·show Act.put _ (some 108) _ = _
                      simp only [Act.put, sa_, sz_, ss_, i64_w, i32_w]
                      rfl
                     refine pure_ (i := 10) (N := some 98) (v := ?_) (a' := ?_) #[true, true, true, true, true, true, true, true, true, true, true, false, false, false, false, false] rfl rfl (any_of HT_.out (by kernel_rfl)) (fun _ _ _ h => h) (Or.inl ⟨by rfl, ?_⟩) ?_ ?_
                     rotate_left
                     ·intro w'
                      go_simp
                      with_reducible rfl
                     rotate_left
                     ·simp only [Act.put, sa_, sz_, ss_, i64_w, i32_w]
                      rfl
                     refine pure_ (i := 11) (N := some 109) (v := ?_) (a' := ?_) #[true, true, true, true, true, true, true, true, true, true, true, true, false, false, false, false] rfl rfl (any_of HT_.out (by kernel_rfl)) (fun _ _ _ h => h) (Or.inl ⟨by rfl, ?_⟩) ?_ ?_
                     rotate_left
                     ·intro w'
                      go_simp
                      with_reducible rfl
                     rotate_left
                     ·simp only [Act.put, sa_, sz_, ss_, i64_w, i32_w]
                      rfl
                     refine pure_ (i := 12) (N := some 110) (v := ?_) (a' := ?_) #[true, true, true, true, true, true, true, true, true, true, true, true, true, false, false, false] rfl rfl (any_of HT_.out (by kernel_rfl)) (fun _ _ _ h => h) (Or.inl ⟨by rfl, ?_⟩) ?_ ?_
                     rotate_left
                     ·intro w'
                      go_simp
                      with_reducible rfl
                     rotate_left
                     ·simp only [Act.put, sa_, sz_, ss_, i64_w, i32_w]
                      rfl
                     refine one_ (i := 13) (N := some 19) #[true, true, true, true, true, true, true, true, true, true, true, true, true, true, false, false] rfl rfl (one_of HT_.out (by kernel_rfl)) (by decide) (fun K hK => ?_)
                     refine box_step ?hg (N := 19) ?hd (cs := #[.int .i64 0, .int .i64 0, .int .i64 0, .int .i64 0, .slice none 0 0]) (t := 29) ?hr ?_; (case hd => rfl); (case hg => rfl); (case hr => first | (go_simp; done) | (go_simp; rfl))
                     intro gb249 hg w111 hbox hb
                     have n0_ := A_ (Kd.R_below (rk_ HO_14.out) hb)
                     have n1_ := A_ (Kd.R_below (rk_ HO_230004.out) hb)
                     have n2_ := A_ (Kd.R_below (rk_ HO247.out) hb)
                     have n3_ := A_ (blk_below (pk_ BK216.out) hb)
                     have n4_ := A_ (blk_below (pk_ BK229.out) hb)
                     have n5_ := A_ (Kd.C_below (by repeat (first | (with_reducible exact HR240.out) | (with_reducible refine Kd.C_alloc ?_ _) | (with_reducible refine Kd.C_drewN ?_ _) | (with_reducible refine Kd.C_drew ?_) | exact HR240.out)) hb)
                     have n6_ := A_ (below_step (bk_ HB.out) hb)
                     have n7_ := A_ (hbox)
                     have n8_ := A_ ((by rw [hg]; exact (below_size (bk_ HB.out)) : w.heap.size ≤ gb249))
                     have n9_ := A_ ((by rw [hg]; exact (below_size (bk_ HB.out)) : w.heap.size ≤ gb249))
                     have n10_ := A_ ((by rw [hg]; exact Nat.ne_of_lt (blk_lt (pk_ BK216.out)) : gb216 ≠ gb249))
                     have n11_ := A_ ((by rw [hg]; exact Nat.ne_of_gt (blk_lt (pk_ BK216.out)) : gb249 ≠ gb216))
                     have n12_ := A_ ((by rw [hg]; exact Nat.ne_of_lt (blk_lt (pk_ BK229.out)) : gb229 ≠ gb249))
                     have n13_ := A_ ((by rw [hg]; exact Nat.ne_of_gt (blk_lt (pk_ BK229.out)) : gb249 ≠ gb229))
                     clear HO_14 HO_230004 HO247 BK216 BK229 HR240 HB
                     have HO_14 := n0_
                     have HO_230004 := n1_
                     have HO247 := n2_
                     have BK216 := n3_
                     have BK229 := n4_
                     have HR240 := n5_
                     have HB := n6_
                     have BK249 := n7_
                     have GW249 := n8_
                     have GE249 := n9_
                     have NB216_249 := n10_
                     have NB249_216 := n11_
                     have NB229_249 := n12_
                     have NB249_229 := n13_
                     clear n0_ n1_ n2_ n3_ n4_ n5_ n6_ n7_ n8_ n9_ n10_ n11_ n12_ n13_ hb hbox hg
                     refine hK.out _ _ ⟨(blk_cell BK216.out 0).trans rfl, (blk_cell BK216.out 1).trans rfl, (blk_cell BK216.out 2).trans rfl⟩ (fun hHeld => ?_)
                     clear hK K
                     refine norm_ (a' := ?_) ?_ ?_
                     rotate_left
                     ·show Act.put _ (some 19) _ = _
                      simp only [Act.put, sa_, sz_, ss_, i64_w, i32_w]
                      rfl
                     exact norm_ (by simp only [putAll, Act.put, List.setIfInBounds_toArray, List.set_cons_zero, List.set_cons_succ]) (hCont (v246, gb249) _ ⟨hHeld, (by (with_reducible repeat (first | apply Kd.R_alloc | apply Kd.R_drewN | apply Kd.R_drew)); exact Kd.R_mono HO247.out (fun _ hk => ⟨hk.1.2, hk.2⟩)), (by (with_reducible repeat (first | apply Kd.R_alloc | apply Kd.R_drewN | apply Kd.R_drew)); exact Kd.R_mono HO_14.out (fun _ hk => ⟨hk.2, hk.1⟩)), (by (with_reducible repeat (first | apply Kd.R_alloc | apply Kd.R_drewN | apply Kd.R_drew)); exact Kd.R_mono HO_230004.out (fun _ hk => ⟨hk.2, hk.1⟩)), (pk_ BK216.out), (pk_ BK229.out), (pk_ BK249.out), GW249.out, GE249.out, NB216_249.out, NB249_216.out, NB229_249.out, NB249_229.out, (bk_ HB.out)⟩)
                    ·skip
                     refine box_step ?hg (N := 19) ?hd (cs := #[.int .i64 0, .int .i64 0, .int .i64 0, .int .i64 0, .slice none 0 0]) (t := 29) ?hr ?_; (case hd => rfl); (case hg => rfl); (case hr => first | (go_simp; done) | (go_simp; rfl))
                     intro gb249 hg w110 hbox hb
                     have n0_ := A_ (Kd.R_below (rk_ HO_14.out) hb)
                     have n1_ := A_ (Kd.R_below (rk_ HO_230004.out) hb)
                     have n2_ := A_ (blk_below (pk_ BK216.out) hb)
                     have n3_ := A_ (blk_below (pk_ BK229.out) hb)
                     have n4_ := A_ (Kd.C_below (by repeat (first | (with_reducible exact HR240.out) | (with_reducible refine Kd.C_alloc ?_ _) | (with_reducible refine Kd.C_drewN ?_ _) | (with_reducible refine Kd.C_drew ?_) | exact HR240.out)) hb)
                     have n5_ := A_ (below_step (bk_ HB.out) hb)
                     have n6_ := A_ (hbox)
                     have n7_ := A_ ((by rw [hg]; exact (below_size (bk_ HB.out)) : w.heap.size ≤ gb249))
                     have n8_ := A_ ((by rw [hg]; exact (below_size (bk_ HB.out)) : w.heap.size ≤ gb249))
                     have n9_ := A_ ((by rw [hg]; exact Nat.ne_of_lt (blk_lt (pk_ BK216.out)) : gb216 ≠ gb249))
                     have n10_ := A_ ((by rw [hg]; exact Nat.ne_of_gt (blk_lt (pk_ BK216.out)) : gb249 ≠ gb216))
                     have n11_ := A_ ((by rw [hg]; exact Nat.ne_of_lt (blk_lt (pk_ BK229.out)) : gb229 ≠ gb249))
                     have n12_ := A_ ((by rw [hg]; exact Nat.ne_of_gt (blk_lt (pk_ BK229.out)) : gb249 ≠ gb229))
                     clear HO_14 HO_230004 BK216 BK229 HR240 HB
                     have HO_14 := n0_
                     have HO_230004 := n1_
                     have BK216 := n2_
                     have BK229 := n3_
                     have HR240 := n4_
                     have HB := n5_
                     have BK249 := n6_
                     have GW249 := n7_
                     have GE249 := n8_
                     have NB216_249 := n9_
                     have NB249_216 := n10_
                     have NB229_249 := n11_
                     have NB249_229 := n12_
                     clear n0_ n1_ n2_ n3_ n4_ n5_ n6_ n7_ n8_ n9_ n10_ n11_ n12_ hb hbox hg
                     refine hK.out _ _ ⟨(blk_cell BK216.out 0).trans rfl, (blk_cell BK216.out 1).trans rfl, (blk_cell BK216.out 2).trans rfl⟩ (fun hHeld => ?_)
                     clear hK K
                     refine norm_ (a' := ?_) ?_ ?_
                     rotate_left
                     ·show Act.put _ (some 19) _ = _
                      simp only [Act.put, sa_, sz_, ss_, i64_w, i32_w]
                      rfl
                     refine one_ (i := 9) (N := some 108) #[true, true, true, true, true, true, true, true, true, true, false, false, false, true, false, false] rfl rfl (one_of HT_.out (by kernel_rfl)) (by decide) (fun K hK => ?_)
                     refine goes_ Try.func9 (by kernel_rfl) rfl #[.agg #[.int .i64 a0_0, .int .i64 a0_1, .slice A0_2 l0_2.length c0_2], .int .i64 x1_2, .int .i64 (wrap64 (x2_2 - x17_77)), .slice A108 y237.length c108] (by rfl) rfl rfl gl_ ?_
                     with_reducible refine (block_Cross.calls kj77 a0_0 a0_1 _ _ l0_2 x1_2 (wrap64 (x2_2 - x17_77)) _ _ y237 t241 t242 t243 t244 t245 t248 _ ?side1 ?side2 ?side3 ?side4 A83.out).mono ?_
                     (case side1 => exact ck_ (Kd.C_below HR0_2.out HB.out))
                     (case side2 => exact HC0_2.out)
                     (case side3 => repeat (first | exact (by repeat (first | (with_reducible exact HR240.out) | (with_reducible refine Kd.C_alloc ?_ _) | (with_reducible refine Kd.C_drewN ?_ _) | (with_reducible refine Kd.C_drew ?_) | exact HR240.out)) | (with_reducible refine Kd.C_alloc ?_ _) | (with_reducible refine Kd.C_drewN ?_ _) | (with_reducible refine Kd.C_drew ?_)))
                     (case side4 => exact HC240.out)
                     rintro e w111 ⟨v246, rfl, ho0, hb⟩
                     refine ⟨_, rfl, ?_⟩
                     have n0_ := A_ (Kd.R_elder' (rk_ HO_14.out) (Kd.R_base ho0) hb)
                     have n1_ := A_ (Kd.R_elder' (rk_ HO_230004.out) (Kd.R_base ho0) hb)
                     have n2_ := A_ (Kd.R_lower (Kd.R_new' (Kd.R_new' ho0 (Kd.R_lt (rk_ HO_14.out))) (Kd.R_lt (rk_ HO_230004.out))) (below_size (bk_ HB.out)))
                     have n3_ := A_ (blk_below (pk_ BK216.out) hb)
                     have n4_ := A_ (blk_below (pk_ BK229.out) hb)
                     have n5_ := A_ (Kd.C_below (by repeat (first | (with_reducible exact HR240.out) | (with_reducible refine Kd.C_alloc ?_ _) | (with_reducible refine Kd.C_drewN ?_ _) | (with_reducible refine Kd.C_drew ?_) | exact HR240.out)) hb)
                     have n6_ := A_ (blk_below (pk_ BK249.out) hb)
                     have n7_ := A_ (below_step (bk_ HB.out) hb)
                     clear HO_14 HO_230004 BK216 BK229 HR240 BK249 HB
                     have HO_14 := n0_
                     have HO_230004 := n1_
                     have HO247 := n2_
                     have BK216 := n3_
                     have BK229 := n4_
                     have HR240 := n5_
                     have BK249 := n6_
                     have HB := n7_
                     clear n0_ n1_ n2_ n3_ n4_ n5_ n6_ n7_
                     (try clear hb)
                     (try clear hb2)
                     (try clear hk)
                     (try clear hi)
                     (try clear ho0)
                     refine hK.out _ _ ⟨(blk_cell BK216.out 0).trans rfl, (blk_cell BK216.out 1).trans rfl, (blk_cell BK216.out 2).trans rfl⟩ (fun hHeld => ?_)
                     clear hK K
                     refine norm_ (a' := ?_) ?_ ?_
                     rotate_left
                     ·show Act.put _ (some 108) _ = _
                      simp only [Act.put, sa_, sz_, ss_, i64_w, i32_w]
                      rfl
                     refine pure_ (i := 10) (N := some 98) (v := ?_) (a' := ?_) #[true, true, true, true, true, true, true, true, true, true, true, false, false, true, false, false] rfl rfl (any_of HT_.out (by kernel_rfl)) (fun _ _ _ h => h) (Or.inl ⟨by rfl, ?_⟩) ?_ ?_
                     rotate_left
                     ·intro w'
                      go_simp
                      with_reducible rfl
                     rotate_left
                     ·simp only [Act.put, sa_, sz_, ss_, i64_w, i32_w]
                      rfl
                     refine pure_ (i := 11) (N := some 109) (v := ?_) (a' := ?_) #[true, true, true, true, true, true, true, true, true, true, true, true, false, true, false, false] rfl rfl (any_of HT_.out (by kernel_rfl)) (fun _ _ _ h => h) (Or.inl ⟨by rfl, ?_⟩) ?_ ?_
                     rotate_left
                     ·intro w'
                      go_simp
                      with_reducible rfl
                     rotate_left
                     ·simp only [Act.put, sa_, sz_, ss_, i64_w, i32_w]
                      rfl
                     refine pure_ (i := 12) (N := some 110) (v := ?_) (a' := ?_) #[true, true, true, true, true, true, true, true, true, true, true, true, true, true, false, false] rfl rfl (any_of HT_.out (by kernel_rfl)) (fun _ _ _ h => h) (Or.inl ⟨by rfl, ?_⟩) ?_ ?_
                     rotate_left
                     ·intro w'
                      go_simp
                      with_reducible rfl
                     rotate_left
                     ·simp only [Act.put, sa_, sz_, ss_, i64_w, i32_w]
                      rfl
                     exact norm_ (by simp only [putAll, Act.put, List.setIfInBounds_toArray, List.set_cons_zero, List.set_cons_succ]) (hCont (v246, gb249) _ ⟨hHeld, (by (with_reducible repeat (first | apply Kd.R_alloc | apply Kd.R_drewN | apply Kd.R_drew)); exact Kd.R_mono HO247.out (fun _ hk => ⟨hk.1.2, hk.2⟩)), (by (with_reducible repeat (first | apply Kd.R_alloc | apply Kd.R_drewN | apply Kd.R_drew)); exact Kd.R_mono HO_14.out (fun _ hk => ⟨hk.2, hk.1⟩)), (by (with_reducible repeat (first | apply Kd.R_alloc | apply Kd.R_drewN | apply Kd.R_drew)); exact Kd.R_mono HO_230004.out (fun _ hk => ⟨hk.2, hk.1⟩)), (pk_ BK216.out), (pk_ BK229.out), (pk_ BK249.out), GW249.out, GE249.out, NB216_249.out, NB249_216.out, NB229_249.out, NB249_229.out, (bk_ HB.out)⟩)
                   rintro ⟨v246, gb249⟩ w112 ⟨hS_, h0_, h1_, h2_, h3_, h4_, h5_, h6_, h7_, h8_, h9_, h10_, h11_, h12_⟩
                   have n0_ : Aside0 (Kd.R (Kd.int .i64) 3 w112 w.heap.size (fun k_ => some k_ ≠ (.slice Ao109 x14_2.length co109 : Value).ownBlock ∧ some k_ ≠ (.slice Ao69 t225.length co69 : Value).ownBlock) v246 t245) := ⟨h0_⟩
                   have n1_ : Aside0 (Kd.R (Kd.int .i64) 3 w112 w.heap.size (fun k_ => some k_ ≠ (v246 : Value).ownBlock ∧ some k_ ≠ (.slice Ao69 t225.length co69 : Value).ownBlock) (.slice Ao109 x14_2.length co109) x14_2) := ⟨h1_⟩
                   have n2_ : Aside0 (Kd.R (Kd.int .i64) 3 w112 w.heap.size (fun k_ => some k_ ≠ (v246 : Value).ownBlock ∧ some k_ ≠ (.slice Ao109 x14_2.length co109 : Value).ownBlock) (.slice Ao69 t225.length co69) t225) := ⟨h2_⟩
                   have n3_ : Aside0 (w112.heap[gb216]? = some (.cells #[.int .i64 a0_0, .int .i64 a0_1, .slice A0_2 l0_2.length c0_2] 24 (0, 0))) := ⟨h3_⟩
                   have n4_ : Aside0 (w112.heap[gb229]? = some (.cells #[.int .i64 t221, .int .i64 t222, .int .i64 t223, .int .i64 t224, .slice Ao69 t225.length co69] 29 (0, 0))) := ⟨h4_⟩
                   have n5_ : Aside0 (w112.heap[gb249]? = some (.cells #[.int .i64 0, .int .i64 0, .int .i64 0, .int .i64 0, .slice none 0 0] 29 (0, 0))) := ⟨h5_⟩
                   have n6_ : Aside0 (w.heap.size ≤ gb249) := ⟨h6_⟩
                   have n7_ : Aside0 (w.heap.size ≤ gb249) := ⟨h7_⟩
                   have n8_ : Aside0 (gb216 ≠ gb249) := ⟨h8_⟩
                   have n9_ : Aside0 (gb249 ≠ gb216) := ⟨h9_⟩
                   have n10_ : Aside0 (gb229 ≠ gb249) := ⟨h10_⟩
                   have n11_ : Aside0 (gb249 ≠ gb229) := ⟨h11_⟩
                   have n12_ : Aside0 (Below w.heap.size w w112) := ⟨h12_⟩
                   clear HO_14 HO_230004 BK216 BK229 HB h0_ h1_ h2_ h3_ h4_ h5_ h6_ h7_ h8_ h9_ h10_ h11_ h12_
                   have HO247 := n0_
                   have HO_14 := n1_
                   have HO_230004 := n2_
                   have BK216 := n3_
                   have BK229 := n4_
                   have BK249 := n5_
                   have GW249 := n6_
                   have GE249 := n7_
                   have NB216_249 := n8_
                   have NB249_216 := n9_
                   have NB229_249 := n10_
                   have NB249_229 := n11_
                   have HB := n12_
                   clear n0_ n1_ n2_ n3_ n4_ n5_ n6_ n7_ n8_ n9_ n10_ n11_ n12_
                   have hHeld : w112.cell? ⟨gb216, 0, none⟩ = some (.int .i64 a0_0) ∧ w112.cell? ⟨gb216, 1, none⟩ = some (.int .i64 a0_1) ∧ w112.cell? ⟨gb216, 2, none⟩ = some (.slice A0_2 l0_2.length c0_2) := hS_
                   obtain ⟨Ao117, co117, eo117⟩ := Kd.R_slice HO247.out
                   (first | subst eo117 | (injection eo117 with f1_ f2_ f3_; have f4_ := f1_.symm; have f5_ := f3_.symm; clear f1_ f2_ f3_; subst f4_; subst f5_))
                   refine norm_ (a' := ?_) ?_ ?_
                   rotate_left
                   ·simp only [putAll, Act.put, List.setIfInBounds_toArray, List.set_cons_zero, List.set_cons_succ]
                    rfl
                   refine one_ (i := 14) (N := none) #[true, true, true, true, true, true, true, true, true, true, true, true, true, true, true, false] rfl rfl (one_of HT_.out (by kernel_rfl)) (by decide) (fun K hK => ?_)
                   have hs113 : w112.cell? ⟨gb249, 0, none⟩ = some (.int .i64 0) := (blk_cell BK249.out 0).trans rfl
                   have hfs113 := blk_frozen BK249.out 0
                   have hns113_0 := NB216_249.out
                   have hns113_1 := NB229_249.out
                   have hms113_0 := NB249_216.out
                   have hms113_1 := NB249_229.out
                   have hs114 : w112.cell? ⟨gb249, 1, none⟩ = some (.int .i64 0) := (blk_cell BK249.out 1).trans rfl
                   have hfs114 := blk_frozen BK249.out 1
                   have hns114_0 := NB216_249.out
                   have hns114_1 := NB229_249.out
                   have hms114_0 := NB249_216.out
                   have hms114_1 := NB249_229.out
                   have hs115 : w112.cell? ⟨gb249, 2, none⟩ = some (.int .i64 0) := (blk_cell BK249.out 2).trans rfl
                   have hfs115 := blk_frozen BK249.out 2
                   have hns115_0 := NB216_249.out
                   have hns115_1 := NB229_249.out
                   have hms115_0 := NB249_216.out
                   have hms115_1 := NB249_229.out
                   have hs116 : w112.cell? ⟨gb249, 3, none⟩ = some (.int .i64 0) := (blk_cell BK249.out 3).trans rfl
                   have hfs116 := blk_frozen BK249.out 3
                   have hns116_0 := NB216_249.out
                   have hns116_1 := NB229_249.out
                   have hms116_0 := NB249_216.out
                   have hms116_1 := NB249_229.out
                   have hs118 : w112.cell? ⟨gb249, 4, none⟩ = some (.slice none 0 0) := (blk_cell BK249.out 4).trans rfl
                   have hfs118 := blk_frozen BK249.out 4
                   have hns118_0 := NB216_249.out
                   have hns118_1 := NB229_249.out
                   have hms118_0 := NB249_216.out
                   have hms118_1 := NB249_229.out
                   refine skip_ (w1 := ?_) (by rfl) rfl ?_ ?_
                   rotate_left
                   ·go_simp
                    rfl
                   refine hK.out _ _ ⟨((cell_far (p := ⟨gb249, _, none⟩) NB216_249.out _).trans (((cell_far (p := ⟨gb249, _, none⟩) NB216_249.out _).trans (((cell_far (p := ⟨gb249, _, none⟩) NB216_249.out _).trans (((cell_far (p := ⟨gb249, _, none⟩) NB216_249.out _).trans (((cell_far (p := ⟨gb249, _, none⟩) NB216_249.out _).trans (hHeld.1)))))))))), ((cell_far (p := ⟨gb249, _, none⟩) NB216_249.out _).trans (((cell_far (p := ⟨gb249, _, none⟩) NB216_249.out _).trans (((cell_far (p := ⟨gb249, _, none⟩) NB216_249.out _).trans (((cell_far (p := ⟨gb249, _, none⟩) NB216_249.out _).trans (((cell_far (p := ⟨gb249, _, none⟩) NB216_249.out _).trans (hHeld.2.1)))))))))), ((cell_far (p := ⟨gb249, _, none⟩) NB216_249.out _).trans (((cell_far (p := ⟨gb249, _, none⟩) NB216_249.out _).trans (((cell_far (p := ⟨gb249, _, none⟩) NB216_249.out _).trans (((cell_far (p := ⟨gb249, _, none⟩) NB216_249.out _).trans (((cell_far (p := ⟨gb249, _, none⟩) NB216_249.out _).trans (hHeld.2.2))))))))))⟩ (fun hHeld => ?_)
                   clear hK K
                   refine pure_ (i := 15) (N := some 20) (v := ?_) (a' := ?_) #[true, true, true, true, true, true, true, true, true, true, true, true, true, true, true, true] rfl rfl (any_of HT_.out (by kernel_rfl)) (fun _ _ _ h => h) (Or.inl ⟨by rfl, ?_⟩) ?_ ?_
                   rotate_left
                   ·intro w'
                    go_simp
                    with_reducible rfl
                   rotate_left
                   ·simp only [Act.put, sa_, sz_, ss_, i64_w, i32_w]
                    rfl
                   refine done_ (done_of HT_.out (by kernel_rfl)) ?_
                   have hnb119 := NB249_216.out
                   have hnc119 := NB216_249.out
                   have hnb120 := NB249_229.out
                   have hnc120 := NB229_249.out
                   have hcz121_0 : w112.cell? ⟨gb249, 0, none⟩ = some (.int .i64 0) := (blk_cell BK249.out 0).trans rfl
                   have hcz121_1 : w112.cell? ⟨gb249, 1, none⟩ = some (.int .i64 0) := (blk_cell BK249.out 1).trans rfl
                   have hcz121_2 : w112.cell? ⟨gb249, 2, none⟩ = some (.int .i64 0) := (blk_cell BK249.out 2).trans rfl
                   have hcz121_3 : w112.cell? ⟨gb249, 3, none⟩ = some (.int .i64 0) := (blk_cell BK249.out 3).trans rfl
                   have hcz121_4 : w112.cell? ⟨gb249, 4, none⟩ = some (.slice none 0 0) := (blk_cell BK249.out 4).trans rfl
                   have hfz121_0 := blk_frozen BK249.out 0
                   have hfz121_1 := blk_frozen BK249.out 1
                   have hfz121_2 := blk_frozen BK249.out 2
                   have hfz121_3 := blk_frozen BK249.out 3
                   have hfz121_4 := blk_frozen BK249.out 4
                   go_upto_region 19 with (fail)
                   go_cut [133] (fun v133 wc => ∃ (kq : Nat) (x133_105 : Bool), v133 = .bool x133_105 ∧ Aside0 (standstilllaw05_BlockParts.j4 kq l3 (wrap64 (1 + (Int.tmod (wrap64 (a4)) (wrap64 ((l3.length : Int) - 1))))) x14_2 x15_2 x16_2 x17_77 x133_105 a0_0 a0_1 l0_2 t221 t222 t223 t224 t225 t241 t242 t243 t244 t245 = some r) ∧ Aside0 (kq ≤ kj77) ∧ Aside0 (Kd.R (Kd.int .i64) 3 wc w.heap.size (fun k_ => some k_ ≠ ((.slice Ao69 t225.length co69) : Value).ownBlock ∧ some k_ ≠ ((.slice Ao117 t245.length co117) : Value).ownBlock) (.slice Ao109 x14_2.length co109) x14_2) ∧ Aside0 (Kd.R (Kd.int .i64) 3 wc w.heap.size (fun k_ => some k_ ≠ ((.slice Ao109 x14_2.length co109) : Value).ownBlock ∧ some k_ ≠ ((.slice Ao117 t245.length co117) : Value).ownBlock) (.slice Ao69 t225.length co69) t225) ∧ Aside0 (Kd.R (Kd.int .i64) 3 wc w.heap.size (fun k_ => some k_ ≠ ((.slice Ao109 x14_2.length co109) : Value).ownBlock ∧ some k_ ≠ ((.slice Ao69 t225.length co69) : Value).ownBlock) (.slice Ao117 t245.length co117) t245) ∧ Aside0 (wc.heap[gb216]? = some (.cells #[.int .i64 a0_0, .int .i64 a0_1, (.slice A0_2 l0_2.length c0_2)] 24 (0, 0))) ∧ Aside0 (wc.heap[gb229]? = some (.cells #[.int .i64 t221, .int .i64 t222, .int .i64 t223, .int .i64 t224, (.slice Ao69 t225.length co69)] 29 (0, 0))) ∧ Aside0 (wc.heap[gb249]? = some (.cells #[.int .i64 t241, .int .i64 t242, .int .i64 t243, .int .i64 t244, (.slice Ao117 t245.length co117)] 29 (0, 0))) ∧ Aside0 (Below w.heap.size w wc))
                   case first => as_aux_lemma =>
                    have H := HC106.out
                    clear HC106
                    by_cases c122 : (t245.length : Int) = (wrap64 (x18_77 - x17_77))
                    ·rw [if_pos c122] at H
                     have c122b0 : ((t245.length : Int) == (wrap64 (x18_77 - x17_77))) = true := beq_iff_eq.mpr c122
                     have c122b1 : ((t245.length : Int) != (wrap64 (x18_77 - x17_77))) = false := bne_eq_false_iff_eq.mpr c122
                     clear c122
                     (first | rw [c122b0] | (simp only [i64_w, i32_w]; rw [c122b0]) | skip)
                     have H' := Aside0.mk H
                     clear H
                     have hnb123 := NB249_216.out
                     have hnc123 := NB216_249.out
                     have hnb124 := NB249_229.out
                     have hnc124 := NB229_249.out
                     have hcz125_0 : w112.cell? ⟨gb249, 0, none⟩ = some (.int .i64 0) := (blk_cell BK249.out 0).trans rfl
                     have hcz125_1 : w112.cell? ⟨gb249, 1, none⟩ = some (.int .i64 0) := (blk_cell BK249.out 1).trans rfl
                     have hcz125_2 : w112.cell? ⟨gb249, 2, none⟩ = some (.int .i64 0) := (blk_cell BK249.out 2).trans rfl
                     have hcz125_3 : w112.cell? ⟨gb249, 3, none⟩ = some (.int .i64 0) := (blk_cell BK249.out 3).trans rfl
                     have hcz125_4 : w112.cell? ⟨gb249, 4, none⟩ = some (.slice none 0 0) := (blk_cell BK249.out 4).trans rfl
                     have hfz125_0 := blk_frozen BK249.out 0
                     have hfz125_1 := blk_frozen BK249.out 1
                     have hfz125_2 := blk_frozen BK249.out 2
                     have hfz125_3 := blk_frozen BK249.out 3
                     have hfz125_4 := blk_frozen BK249.out 4
                     go_wp2
                     go_meet
                     case rel => exact ⟨_, (decide (t243 < 1)), jr_, H', ⟨by have := HJ5.out; have := HK2.out; have := HJ72.out; have := HJ77.out; first | omega | exact Nat.le_refl _⟩, ⟨by (with_reducible repeat (first | apply Kd.R_alloc | apply Kd.R_drewN | apply Kd.R_drew)); exact Kd.R_mono (Kd.R_far (p := ⟨gb249, 4, none⟩) (Kd.R_far (p := ⟨gb249, 3, none⟩) (Kd.R_far (p := ⟨gb249, 2, none⟩) (Kd.R_far (p := ⟨gb249, 1, none⟩) (Kd.R_far (p := ⟨gb249, 0, none⟩) (Kd.R_types HO_14.out BK249.out (by decide)) (fun _ hk => hk.2) (.int .i64 t241)) (fun _ hk => hk.2) (.int .i64 t242)) (fun _ hk => hk.2) (.int .i64 t243)) (fun _ hk => hk.2) (.int .i64 t244)) (fun _ hk => hk.2) (.slice Ao117 t245.length co117)) (fun _ hk => ⟨hk.1.2, hk.1.1⟩)⟩, ⟨by (with_reducible repeat (first | apply Kd.R_alloc | apply Kd.R_drewN | apply Kd.R_drew)); exact Kd.R_mono (Kd.R_far (p := ⟨gb249, 4, none⟩) (Kd.R_far (p := ⟨gb249, 3, none⟩) (Kd.R_far (p := ⟨gb249, 2, none⟩) (Kd.R_far (p := ⟨gb249, 1, none⟩) (Kd.R_far (p := ⟨gb249, 0, none⟩) (Kd.R_types HO_230004.out BK249.out (by decide)) (fun _ hk => hk.2) (.int .i64 t241)) (fun _ hk => hk.2) (.int .i64 t242)) (fun _ hk => hk.2) (.int .i64 t243)) (fun _ hk => hk.2) (.int .i64 t244)) (fun _ hk => hk.2) (.slice Ao117 t245.length co117)) (fun _ hk => ⟨hk.1.2, hk.1.1⟩)⟩, ⟨by (with_reducible repeat (first | apply Kd.R_alloc | apply Kd.R_drewN | apply Kd.R_drew)); exact Kd.R_mono (Kd.R_far (p := ⟨gb249, 4, none⟩) (Kd.R_far (p := ⟨gb249, 3, none⟩) (Kd.R_far (p := ⟨gb249, 2, none⟩) (Kd.R_far (p := ⟨gb249, 1, none⟩) (Kd.R_far (p := ⟨gb249, 0, none⟩) (Kd.R_types HO247.out BK249.out (by decide)) (fun _ hk => hk.2) (.int .i64 t241)) (fun _ hk => hk.2) (.int .i64 t242)) (fun _ hk => hk.2) (.int .i64 t243)) (fun _ hk => hk.2) (.int .i64 t244)) (fun _ hk => hk.2) (.slice Ao117 t245.length co117)) (fun _ hk => ⟨hk.1.1, hk.1.2⟩)⟩, ⟨by refine pk_ ?_; refine blk_far ?_ NB216_249.out _; refine pk_ ?_; refine blk_far ?_ NB216_249.out _; refine pk_ ?_; refine blk_far ?_ NB216_249.out _; refine pk_ ?_; refine blk_far ?_ NB216_249.out _; refine pk_ ?_; refine blk_far ?_ NB216_249.out _; exact pk_ BK216.out⟩, ⟨by refine pk_ ?_; refine blk_far ?_ NB229_249.out _; refine pk_ ?_; refine blk_far ?_ NB229_249.out _; refine pk_ ?_; refine blk_far ?_ NB229_249.out _; refine pk_ ?_; refine blk_far ?_ NB229_249.out _; refine pk_ ?_; refine blk_far ?_ NB229_249.out _; exact pk_ BK229.out⟩, ⟨by refine pk_ ?_; refine blk_put (cs := #[.int .i64 t241, .int .i64 t242, .int .i64 t243, .int .i64 t244, .slice none 0 0]) ?_ 4 _ rfl; refine pk_ ?_; refine blk_put (cs := #[.int .i64 t241, .int .i64 t242, .int .i64 t243, .int .i64 0, .slice none 0 0]) ?_ 3 _ rfl; refine pk_ ?_; refine blk_put (cs := #[.int .i64 t241, .int .i64 t242, .int .i64 0, .int .i64 0, .slice none 0 0]) ?_ 2 _ rfl; refine pk_ ?_; refine blk_put (cs := #[.int .i64 t241, .int .i64 0, .int .i64 0, .int .i64 0, .slice none 0 0]) ?_ 1 _ rfl; refine pk_ ?_; refine blk_put (cs := #[.int .i64 0, .int .i64 0, .int .i64 0, .int .i64 0, .slice none 0 0]) ?_ 0 _ rfl; exact pk_ BK249.out⟩, ⟨bk_ HB.out⟩⟩
                    ·rw [if_neg c122] at H
                     have c122b0 : ((t245.length : Int) == (wrap64 (x18_77 - x17_77))) = false := beq_eq_false_iff_ne.mpr c122
                     have c122b1 : ((t245.length : Int) != (wrap64 (x18_77 - x17_77))) = true := bne_iff_ne.mpr c122
                     (first | rw [c122b0] | (simp only [i64_w, i32_w]; rw [c122b0]) | skip)
                     have H' := Aside0.mk H
                     clear H
                     have hnb126 := NB249_216.out
                     have hnc126 := NB216_249.out
                     have hnb127 := NB249_229.out
                     have hnc127 := NB229_249.out
                     have hcz128_0 : w112.cell? ⟨gb249, 0, none⟩ = some (.int .i64 0) := (blk_cell BK249.out 0).trans rfl
                     have hcz128_1 : w112.cell? ⟨gb249, 1, none⟩ = some (.int .i64 0) := (blk_cell BK249.out 1).trans rfl
                     have hcz128_2 : w112.cell? ⟨gb249, 2, none⟩ = some (.int .i64 0) := (blk_cell BK249.out 2).trans rfl
                     have hcz128_3 : w112.cell? ⟨gb249, 3, none⟩ = some (.int .i64 0) := (blk_cell BK249.out 3).trans rfl
                     have hcz128_4 : w112.cell? ⟨gb249, 4, none⟩ = some (.slice none 0 0) := (blk_cell BK249.out 4).trans rfl
                     have hfz128_0 := blk_frozen BK249.out 0
                     have hfz128_1 := blk_frozen BK249.out 1
                     have hfz128_2 := blk_frozen BK249.out 2
                     have hfz128_3 := blk_frozen BK249.out 3
                     have hfz128_4 := blk_frozen BK249.out 4
                     go_wp2
                     go_meet
                     case rel => exact ⟨_, (true), jr_, H', ⟨by have := HJ5.out; have := HK2.out; have := HJ72.out; have := HJ77.out; first | omega | exact Nat.le_refl _⟩, ⟨by (with_reducible repeat (first | apply Kd.R_alloc | apply Kd.R_drewN | apply Kd.R_drew)); exact Kd.R_mono (Kd.R_far (p := ⟨gb249, 4, none⟩) (Kd.R_far (p := ⟨gb249, 3, none⟩) (Kd.R_far (p := ⟨gb249, 2, none⟩) (Kd.R_far (p := ⟨gb249, 1, none⟩) (Kd.R_far (p := ⟨gb249, 0, none⟩) (Kd.R_types HO_14.out BK249.out (by decide)) (fun _ hk => hk.2) (.int .i64 t241)) (fun _ hk => hk.2) (.int .i64 t242)) (fun _ hk => hk.2) (.int .i64 t243)) (fun _ hk => hk.2) (.int .i64 t244)) (fun _ hk => hk.2) (.slice Ao117 t245.length co117)) (fun _ hk => ⟨hk.1.2, hk.1.1⟩)⟩, ⟨by (with_reducible repeat (first | apply Kd.R_alloc | apply Kd.R_drewN | apply Kd.R_drew)); exact Kd.R_mono (Kd.R_far (p := ⟨gb249, 4, none⟩) (Kd.R_far (p := ⟨gb249, 3, none⟩) (Kd.R_far (p := ⟨gb249, 2, none⟩) (Kd.R_far (p := ⟨gb249, 1, none⟩) (Kd.R_far (p := ⟨gb249, 0, none⟩) (Kd.R_types HO_230004.out BK249.out (by decide)) (fun _ hk => hk.2) (.int .i64 t241)) (fun _ hk => hk.2) (.int .i64 t242)) (fun _ hk => hk.2) (.int .i64 t243)) (fun _ hk => hk.2) (.int .i64 t244)) (fun _ hk => hk.2) (.slice Ao117 t245.length co117)) (fun _ hk => ⟨hk.1.2, hk.1.1⟩)⟩, ⟨by (with_reducible repeat (first | apply Kd.R_alloc | apply Kd.R_drewN | apply Kd.R_drew)); exact Kd.R_mono (Kd.R_far (p := ⟨gb249, 4, none⟩) (Kd.R_far (p := ⟨gb249, 3, none⟩) (Kd.R_far (p := ⟨gb249, 2, none⟩) (Kd.R_far (p := ⟨gb249, 1, none⟩) (Kd.R_far (p := ⟨gb249, 0, none⟩) (Kd.R_types HO247.out BK249.out (by decide)) (fun _ hk => hk.2) (.int .i64 t241)) (fun _ hk => hk.2) (.int .i64 t242)) (fun _ hk => hk.2) (.int .i64 t243)) (fun _ hk => hk.2) (.int .i64 t244)) (fun _ hk => hk.2) (.slice Ao117 t245.length co117)) (fun _ hk => ⟨hk.1.1, hk.1.2⟩)⟩, ⟨by refine pk_ ?_; refine blk_far ?_ NB216_249.out _; refine pk_ ?_; refine blk_far ?_ NB216_249.out _; refine pk_ ?_; refine blk_far ?_ NB216_249.out _; refine pk_ ?_; refine blk_far ?_ NB216_249.out _; refine pk_ ?_; refine blk_far ?_ NB216_249.out _; exact pk_ BK216.out⟩, ⟨by refine pk_ ?_; refine blk_far ?_ NB229_249.out _; refine pk_ ?_; refine blk_far ?_ NB229_249.out _; refine pk_ ?_; refine blk_far ?_ NB229_249.out _; refine pk_ ?_; refine blk_far ?_ NB229_249.out _; refine pk_ ?_; refine blk_far ?_ NB229_249.out _; exact pk_ BK229.out⟩, ⟨by refine pk_ ?_; refine blk_put (cs := #[.int .i64 t241, .int .i64 t242, .int .i64 t243, .int .i64 t244, .slice none 0 0]) ?_ 4 _ rfl; refine pk_ ?_; refine blk_put (cs := #[.int .i64 t241, .int .i64 t242, .int .i64 t243, .int .i64 0, .slice none 0 0]) ?_ 3 _ rfl; refine pk_ ?_; refine blk_put (cs := #[.int .i64 t241, .int .i64 t242, .int .i64 0, .int .i64 0, .slice none 0 0]) ?_ 2 _ rfl; refine pk_ ?_; refine blk_put (cs := #[.int .i64 t241, .int .i64 0, .int .i64 0, .int .i64 0, .slice none 0 0]) ?_ 1 _ rfl; refine pk_ ?_; refine blk_put (cs := #[.int .i64 0, .int .i64 0, .int .i64 0, .int .i64 0, .slice none 0 0]) ?_ 0 _ rfl; exact pk_ BK249.out⟩, ⟨bk_ HB.out⟩⟩
                   case rest => as_aux_lemma =>
                    clear HC106
                    (try clear c1); (try clear c85); (try clear c85b0); (try clear c85b1); (try clear c108); (try clear q108); (try clear hcz121_0); (try clear hcz121_1); (try clear hcz121_2); (try clear hcz121_3); (try clear hcz121_4); (try clear hfz121_0); (try clear hfz121_1); (try clear hfz121_2); (try clear hfz121_3); (try clear hfz121_4); (try clear q0108); (try clear q108)
                    obtain ⟨kq, x133_105, rfl, HA, HJ105, HO_14, HO_230004, HO_250004, BK216, BK229, BK249, HB⟩ := hcut
                    cases kq with
                    | zero => exact absurd HA.out (by simp [standstilllaw05_BlockParts.j4])
                    | succ kj105 =>
                     have H := HA.out
                     clear HA
                     simp only [standstilllaw05_BlockParts.j4] at H
                     by_cases c129 : x133_105 = true
                     ·subst c129
                      have H1 : (none) = some r := by rw [if_pos rfl] at H; exact H
                      clear H
                      have H := H1
                      clear H1
                      exact absurd H (by simp)
                     ·replace c129 := Bool.eq_false_iff.mpr c129
                      subst c129
                      have H1 : (standstilllaw05_BlockParts.l1 kj105 l3 (wrap64 (1 + (Int.tmod (wrap64 (a4)) (wrap64 ((l3.length : Int) - 1))))) x14_2 x15_2 x16_2 x17_77 0 a0_0 a0_1 l0_2 t221 t222 t223 t224 t225 t241 t242 t243 t244 t245) = some r := by rw [if_neg (show ¬ (false = true) by decide)] at H; exact H
                      clear H
                      have H := H1
                      clear H1
                      have H' := Aside0.mk H
                      clear H
                      go_wp2
                      go_loopg [21] kj105 (fun kq v21 w' => ∃ (x14_6 : List Int) (x21_6 : Int), v21 = .int .i64 x21_6 ∧ Aside0 (standstilllaw05_BlockParts.l1 kq l3 (wrap64 (1 + (Int.tmod (wrap64 (a4)) (wrap64 ((l3.length : Int) - 1))))) x14_6 x15_2 x16_2 x17_77 x21_6 a0_0 a0_1 l0_2 t221 t222 t223 t224 t225 t241 t242 t243 t244 t245 = some r) ∧ Aside0 (kq ≤ kj105) ∧ Aside0 (Kd.R (Kd.int .i64) 3 w' w.heap.size (fun k_ => some k_ ≠ ((.slice Ao69 t225.length co69) : Value).ownBlock ∧ some k_ ≠ ((.slice Ao117 t245.length co117) : Value).ownBlock) (.slice Ao109 x14_2.length co109) x14_6) ∧ Aside0 (Kd.R (Kd.int .i64) 3 w' w.heap.size (fun k_ => some k_ ≠ ((.slice Ao109 x14_2.length co109) : Value).ownBlock ∧ some k_ ≠ ((.slice Ao117 t245.length co117) : Value).ownBlock) (.slice Ao69 t225.length co69) t225) ∧ Aside0 (Kd.R (Kd.int .i64) 3 w' w.heap.size (fun k_ => some k_ ≠ ((.slice Ao109 x14_2.length co109) : Value).ownBlock ∧ some k_ ≠ ((.slice Ao69 t225.length co69) : Value).ownBlock) (.slice Ao117 t245.length co117) t245) ∧ Aside0 (w'.heap[gb216]? = some (.cells #[.int .i64 a0_0, .int .i64 a0_1, (.slice A0_2 l0_2.length c0_2)] 24 (0, 0))) ∧ Aside0 (w'.heap[gb229]? = some (.cells #[.int .i64 t221, .int .i64 t222, .int .i64 t223, .int .i64 t224, (.slice Ao69 t225.length co69)] 29 (0, 0))) ∧ Aside0 (w'.heap[gb249]? = some (.cells #[.int .i64 t241, .int .i64 t242, .int .i64 t243, .int .i64 t244, (.slice Ao117 t245.length co117)] 29 (0, 0))) ∧ Aside0 (Below w.heap.size w w'))
                      case atStart => exact ⟨(x14_2), (0), jr_, H', ⟨Nat.le_refl _⟩, ⟨rk_ HO_14.out⟩, ⟨rk_ HO_230004.out⟩, ⟨rk_ HO_250004.out⟩, ⟨pk_ BK216.out⟩, ⟨pk_ BK229.out⟩, ⟨pk_ BK249.out⟩, ⟨bk_ HB.out⟩⟩
                      case round => as_aux_lemma =>
                       clear H'
                       (try clear c1); (try clear c85); (try clear c85b0); (try clear c85b1); (try clear c108); (try clear q108); (try clear c129); (try clear hcz121_0); (try clear hcz121_1); (try clear hcz121_2); (try clear hcz121_3); (try clear hcz121_4); (try clear hfz121_0); (try clear hfz121_1); (try clear hfz121_2); (try clear hfz121_3); (try clear hfz121_4); (try clear q0108); (try clear q108)
                       obtain ⟨x14_6, x21_6, rfl, HA, HK6, HO_14, HO_230004, HO_250004, BK216, BK229, BK249, HB⟩ := hrel
                       have hl14_6 := (Kd.R_reads' HO_14.out).1
                       rw [hl14_6] at HO_14
                       (try simp only [hl14_6])
                       (try simp only [hl14_6] at BK216)
                       (try simp only [hl14_6] at BK229)
                       (try simp only [hl14_6] at BK249)
                       (try simp only [hl14_6] at HO_230004)
                       (try simp only [hl14_6] at HO_250004)
                       cases gk with
                       | zero => exact absurd HA.out (by simp [standstilllaw05_BlockParts.l1])
                       | succ k6 =>
                        have H := HA.out
                        clear HA
                        simp only [standstilllaw05_BlockParts.l1] at H
                        by_cases c130 : x21_6 < (t245.length : Int)
                        ·rw [if_pos c130] at H
                         have c130b0 : decide (x21_6 < (t245.length : Int)) = true := decide_eq_true c130
                         (try (have c130x0 := c130b0; simp only [hl14_6] at c130x0))
                         clear c130
                         by_cases c131 : 0 ≤ x21_6
                         ·rw [if_pos c131] at H
                          have c131b0 : decide (0 ≤ x21_6) = true := decide_eq_true c131
                          clear c131
                          obtain ⟨ji132, hji132⟩ : ∃ j_ : Int, (wrap64 (x17_77 + x21_6)) = j_ := ⟨_, rfl⟩
                          replace H : (if 0 ≤ (ji132) then (if (ji132) < (x14_6.length : Int) then (standstilllaw05_BlockParts.l1 k6 l3 (wrap64 (1 + (Int.tmod (wrap64 (a4)) (wrap64 ((l3.length : Int) - 1))))) (x14_6.set ((ji132) : Int).toNat (rd t245 x21_6)) x15_2 x16_2 x17_77 (wrap64 (x21_6 + 1)) a0_0 a0_1 l0_2 t221 t222 t223 t224 t225 t241 t242 t243 t244 t245) else (none)) else (none)) = some r := by first | (rw [hji132] at H; exact H) | (simp only [hji132] at H ⊢; exact H)
                          have hji132w : (IntKind.i64.wrap (x17_77 + x21_6)) = ji132 := (i64_w _).trans hji132
                          by_cases c133 : 0 ≤ (ji132)
                          ·rw [if_pos c133] at H
                           have c133b0 : decide (0 ≤ (ji132)) = true := decide_eq_true c133
                           clear c133
                           by_cases c134 : (ji132) < (x14_6.length : Int)
                           ·rw [if_pos c134] at H
                            have c134b0 : decide ((ji132) < (x14_6.length : Int)) = true := decide_eq_true c134
                            (try (have c134x0 := c134b0; simp only [hl14_6] at c134x0))
                            clear c134
                            obtain ⟨y252, hy252⟩ : ∃ y_ : List Int, y_ = (x14_6.set ((ji132) : Int).toNat (rd t245 x21_6)) := ⟨_, rfl⟩
                            replace H : (standstilllaw05_BlockParts.l1 k6 l3 (wrap64 (1 + (Int.tmod (wrap64 (a4)) (wrap64 ((l3.length : Int) - 1))))) y252 x15_2 x16_2 x17_77 (wrap64 (x21_6 + 1)) a0_0 a0_1 l0_2 t221 t222 t223 t224 t225 t241 t242 t243 t244 t245) = some r := by first | (rw [hy252]; with_reducible exact H) | (have H2_ := (Option.bind_some _ _).symm.trans H; rw [hy252]; with_reducible exact H2_) | (have H2_ := (Option.bind_some _ _).symm.trans H; with_reducible exact H2_) | with_reducible exact H | (rw [hy252]; exact H) | exact H
                            have Ny252 := Aside0.mk hy252
                            clear hy252
                            have H' := Aside0.mk H
                            clear H
                            have hnb136 := NB249_216.out
                            have hnc136 := NB216_249.out
                            have hnb137 := NB249_229.out
                            have hnc137 := NB229_249.out
                            have hcz138_0 : wr.cell? ⟨gb249, 0, none⟩ = some (.int .i64 t241) := (blk_cell BK249.out 0).trans rfl
                            have hcz138_1 : wr.cell? ⟨gb249, 1, none⟩ = some (.int .i64 t242) := (blk_cell BK249.out 1).trans rfl
                            have hcz138_2 : wr.cell? ⟨gb249, 2, none⟩ = some (.int .i64 t243) := (blk_cell BK249.out 2).trans rfl
                            have hcz138_3 : wr.cell? ⟨gb249, 3, none⟩ = some (.int .i64 t244) := (blk_cell BK249.out 3).trans rfl
                            have hcz138_4 : wr.cell? ⟨gb249, 4, none⟩ = some (.slice Ao117 t245.length co117) := (blk_cell BK249.out 4).trans rfl
                            have hfz138_0 := blk_frozen BK249.out 0
                            have hfz138_1 := blk_frozen BK249.out 1
                            have hfz138_2 := blk_frozen BK249.out 2
                            have hfz138_3 := blk_frozen BK249.out 3
                            have hfz138_4 := blk_frozen BK249.out 4
                            have p251 : 0 ≤ (x21_6 : Int) := od_
                            have q251 : x21_6 < (t245.length : Int) := od_
                            obtain ⟨ad251, e251, hx251_0⟩ := Kd.at_int (Kd.R_reads' HO_250004.out).2.2 x21_6 p251 q251
                            cases e251
                            replace p251 := eq_true p251
                            replace q251 := eq_true q251
                            have p135 : 0 ≤ ((ji132) : Int) := od_
                            have q135 : ((ji132) : Int) < ((x14_6.length : Int) : Int) := od_
                            obtain ⟨go135, co135, eo135, gb135, gl135, cl135, HG135⟩ := Kd.R_form HO_14.out (by omega)
                            (first | cases eo135 | (injection eo135 with ea_ en_ ec_; (first | subst ea_ | (injection ea_ with ea_; subst ea_)); subst ec_; clear en_))
                            have GB135 := Aside0.mk gb135
                            have GG135 := Aside0.mk HG135
                            clear gb135 gl135 HG135
                            obtain ⟨hx135_0, hf135_0⟩ := Kd.R_celln 0 HO_14.out ((ji132) : Int) p135 q135
                            replace p135 := eq_true p135
                            replace q135 := eq_true q135
                            have HP139 := Kd.R_putg HO_14.out ((ji132) : Int) (rd t245 x21_6)
                            go_wp2_with (first | ((with_reducible refine gate_store (t := 3) (p := 150) rfl ?_); refine store_event (t := 3) (p := 150) (v := ?vo_w140) (w1 := (wr.setCell ⟨go135, ((ji132) : Int).toNat, none⟩ (.int .i64 (rd t245 x21_6)))) ?hg ?ho ?hn ?hr ?_; (case ho => rfl); (case hg => rfl); (case hn => rfl); (case hr => first | (go_simp; done) | (go_simp; rfl)); intro w140 hw; have hg : wr.grownBy w140 (some go135) := (by rw [hw]; exact HP139.2); have hp_ : Kd.R (Kd.int .i64) 3 w140 w.heap.size (fun k_ => some k_ ≠ (.slice Ao69 t225.length co69 : Value).ownBlock ∧ some k_ ≠ (.slice (some ad251) t245.length co117 : Value).ownBlock) (.slice (some ⟨go135, 0, none⟩) x14_6.length co109) y252 := (by rw [hw, Ny252.out]; exact HP139.1); clear HP139; have n0_ := A_ (hp_); have n1_ := A_ (Kd.R_after (v := (.slice (some ⟨go135, 0, none⟩) x14_6.length co109)) (v1 := (.slice (some ⟨go135, 0, none⟩) x14_6.length co109)) (ok := (fun k_ => some k_ ≠ (.slice (some ad251) t245.length co117 : Value).ownBlock)) (by (with_reducible repeat (first | apply Kd.R_alloc | apply Kd.R_drewN | apply Kd.R_drew)); exact Kd.R_mono HO_230004.out (fun _ hk => ⟨hk.2, hk.1⟩)) hg (.inl rfl)); have n2_ := A_ (Kd.R_after (v := (.slice (some ⟨go135, 0, none⟩) x14_6.length co109)) (v1 := (.slice (some ⟨go135, 0, none⟩) x14_6.length co109)) (ok := (fun k_ => some k_ ≠ (.slice Ao69 t225.length co69 : Value).ownBlock)) (by (with_reducible repeat (first | apply Kd.R_alloc | apply Kd.R_drewN | apply Kd.R_drew)); exact Kd.R_mono HO_250004.out (fun _ hk => ⟨hk.2, hk.1⟩)) hg (.inl rfl)); have n3_ := A_ (blk_grown (pk_ BK216.out) hg (Kd.R_ne HO_14.out BK216.out (by decide))); have n4_ := A_ (blk_grown (pk_ BK229.out) hg (Kd.R_ne HO_14.out BK229.out (by decide))); have n5_ := A_ (blk_grown (pk_ BK249.out) hg (Kd.R_ne HO_14.out BK249.out (by decide))); have n6_ := A_ ((by rw [hw]; exact below_set (HB.out) GB135.out : Below w.heap.size w w140)); clear HO_14 HO_230004 HO_250004 BK216 BK229 BK249 HB; have HO_14 := n0_; have HO_230004 := n1_; have HO_250004 := n2_; have BK216 := n3_; have BK229 := n4_; have BK249 := n5_; have HB := n6_; clear n0_ n1_ n2_ n3_ n4_ n5_ n6_ hg hw hp_))
                            (try simp only [← hl14_6])
                            go_roundg k6
                            case measure => have := HJ5.out; have := HK2.out; have := HJ72.out; have := HJ77.out; have := HJ105.out; have := HK6.out; omega
                            case rel => exact ⟨(y252), (wrap64 (x21_6 + 1)), jr_, H', ⟨by have := HJ5.out; have := HK2.out; have := HJ72.out; have := HJ77.out; have := HJ105.out; have := HK6.out; omega⟩, ⟨by (try simp only [hl14_6]); (with_reducible repeat (first | apply Kd.R_alloc | apply Kd.R_drewN | apply Kd.R_drew)); exact HO_14.out⟩, ⟨by (try simp only [hl14_6]); (with_reducible repeat (first | apply Kd.R_alloc | apply Kd.R_drewN | apply Kd.R_drew)); exact Kd.R_mono HO_230004.out (fun _ hk => ⟨hk.2, hk.1⟩)⟩, ⟨by (try simp only [hl14_6]); (with_reducible repeat (first | apply Kd.R_alloc | apply Kd.R_drewN | apply Kd.R_drew)); exact Kd.R_mono HO_250004.out (fun _ hk => ⟨hk.2, hk.1⟩)⟩, ⟨by (try simp only [hl14_6]); exact pk_ BK216.out⟩, ⟨by (try simp only [hl14_6]); exact pk_ BK229.out⟩, ⟨by (try simp only [hl14_6]); exact pk_ BK249.out⟩, ⟨bk_ HB.out⟩⟩
                           ·rw [if_neg c134] at H
                            exact absurd H (by simp)
                          ·rw [if_neg c133] at H
                           exact absurd H (by simp)
                         ·rw [if_neg c131] at H
                          exact absurd H (by simp)
                        ·rw [if_neg c130] at H
                         have c130b0 : decide (x21_6 < (t245.length : Int)) = false := decide_eq_false c130
                         (try (have c130x0 := c130b0; simp only [hl14_6] at c130x0))
                         clear c130
                         have HC141 := Aside0.mk H
                         clear H
                         have hnb142 := NB249_216.out
                         have hnc142 := NB216_249.out
                         have hnb143 := NB249_229.out
                         have hnc143 := NB229_249.out
                         have hcz144_0 : wr.cell? ⟨gb249, 0, none⟩ = some (.int .i64 t241) := (blk_cell BK249.out 0).trans rfl
                         have hcz144_1 : wr.cell? ⟨gb249, 1, none⟩ = some (.int .i64 t242) := (blk_cell BK249.out 1).trans rfl
                         have hcz144_2 : wr.cell? ⟨gb249, 2, none⟩ = some (.int .i64 t243) := (blk_cell BK249.out 2).trans rfl
                         have hcz144_3 : wr.cell? ⟨gb249, 3, none⟩ = some (.int .i64 t244) := (blk_cell BK249.out 3).trans rfl
                         have hcz144_4 : wr.cell? ⟨gb249, 4, none⟩ = some (.slice Ao117 t245.length co117) := (blk_cell BK249.out 4).trans rfl
                         have hfz144_0 := blk_frozen BK249.out 0
                         have hfz144_1 := blk_frozen BK249.out 1
                         have hfz144_2 := blk_frozen BK249.out 2
                         have hfz144_3 := blk_frozen BK249.out 3
                         have hfz144_4 := blk_frozen BK249.out 4
                         try go_wp2
                         have n0_ := A_ (Kd.R_drew HO_14.out)
                         have n1_ := A_ (Kd.R_drew HO_230004.out)
                         have n2_ := A_ (Kd.R_drew HO_250004.out)
                         have n3_ := A_ (blk_drew BK216.out)
                         have n4_ := A_ (blk_drew BK229.out)
                         have n5_ := A_ (blk_drew BK249.out)
                         have n6_ := A_ (below_drew1 HB.out)
                         clear HO_14 HO_230004 HO_250004 BK216 BK229 BK249 HB
                         have HO_14 := n0_
                         have HO_230004 := n1_
                         have HO_250004 := n2_
                         have BK216 := n3_
                         have BK229 := n4_
                         have BK249 := n5_
                         have HB := n6_
                         clear n0_ n1_ n2_ n3_ n4_ n5_ n6_
                         refine start_ (n := 13) (S := fun w' => w'.cell? ⟨gb249, 0, none⟩ = some (.int .i64 t241) ∧ w'.cell? ⟨gb249, 1, none⟩ = some (.int .i64 t242) ∧ w'.cell? ⟨gb249, 2, none⟩ = some (.int .i64 t243) ∧ w'.cell? ⟨gb249, 3, none⟩ = some (.int .i64 t244) ∧ w'.cell? ⟨gb249, 4, none⟩ = some (.slice Ao117 t245.length co117)) (ds := []) #[false, false, false, false, false, false, false, false, false, false, false, false, false] (by kernel_rfl) rfl rfl ⟨(blk_cell BK249.out 0).trans rfl, (blk_cell BK249.out 1).trans rfl, (blk_cell BK249.out 2).trans rfl, (blk_cell BK249.out 3).trans rfl, (blk_cell BK249.out 4).trans rfl⟩ (fun hHeld => ?_); refine with_tabW standstilllaw05_BlockParts.tab25 standstilllaw05_BlockParts.bits25 (fun HT_ HW_ => ?_)
                         generalize wr.drew = w145 at HO_14 HO_230004 HO_250004 BK216 BK229 BK249 HB hHeld ⊢
                         refine pure_ (i := 0) (N := some 151) (v := ?_) (a' := ?_) #[true, false, false, false, false, false, false, false, false, false, false, false, false] rfl rfl (any_of HT_.out (by kernel_rfl)) (fun _ _ _ h => h) (Or.inl ⟨by rfl, ?_⟩) ?_ ?_
                         rotate_left
                         ·intro w'
                          go_simp
                          with_reducible rfl
                         rotate_left
                         ·simp only [Act.put, sa_, sz_, ss_, i64_w, i32_w]
                          rfl
                         refine pure_ (i := 2) (N := some 153) (v := ?_) (a' := ?_) #[true, false, true, false, false, false, false, false, false, false, false, false, false] rfl rfl (any_of HT_.out (by kernel_rfl)) (fun _ _ _ h => h) (Or.inl ⟨by rfl, ?_⟩) ?_ ?_
                         rotate_left
                         ·intro w'
                          go_simp
                          with_reducible rfl
                         rotate_left
                         ·simp only [Act.put, sa_, sz_, ss_, i64_w, i32_w]
                          rfl
                         refine pure_ (i := 3) (N := some 154) (v := ?_) (a' := ?_) #[true, false, true, true, false, false, false, false, false, false, false, false, false] rfl rfl (any_of HT_.out (by kernel_rfl)) (fun _ _ _ h => h) (Or.inl ⟨by rfl, ?_⟩) ?_ ?_
                         rotate_left
                         ·intro w'
                          go_simp
                          with_reducible rfl
                         rotate_left
                         ·simp only [Act.put, sa_, sz_, ss_, i64_w, i32_w]
                          rfl
                         refine pure_ (i := 6) (N := some 157) (v := ?_) (a' := ?_) #[true, false, true, true, false, false, true, false, false, false, false, false, false] rfl rfl (any_of HT_.out (by kernel_rfl)) (fun _ _ _ h => h) (Or.inl ⟨by rfl, ?_⟩) ?_ ?_
                         rotate_left
                         ·intro w'
                          go_simp
                          with_reducible rfl
                         rotate_left
                         ·simp only [Act.put, sa_, sz_, ss_, i64_w, i32_w]
                          rfl
                         refine pure_ (i := 7) (N := some 158) (v := ?_) (a' := ?_) #[true, false, true, true, false, false, true, true, false, false, false, false, false] rfl rfl (any_of HT_.out (by kernel_rfl)) (fun _ _ _ h => h) (Or.inl ⟨by rfl, ?_⟩) ?_ ?_
                         rotate_left
                         ·intro w'
                          go_simp
                          with_reducible rfl
                         rotate_left
                         ·simp only [Act.put, sa_, sz_, ss_, i64_w, i32_w]
                          rfl
                         refine take_ (i := 1) (N := some 152) (v := ?_) (a' := ?_) #[true, true, true, true, false, false, true, true, false, false, false, false, false] rfl rfl (take_ofW HT_.out HW_.out (by kernel_rfl)) (fun _ _ _ h => h) (Or.inl ⟨by rfl, ?_⟩) hHeld ?_ ?_
                         rotate_left
                         ·rintro w' ⟨s0, s1, s2, s3, s4⟩
                          go_simp
                          with_reducible rfl
                         rotate_left
                         ·simp only [Act.put, sa_, sz_, ss_, i64_w, i32_w]
                          rfl
                         refine pure_ (i := 10) (N := some 1) (v := ?_) (a' := ?_) #[true, true, true, true, false, false, true, true, false, false, true, false, false] rfl rfl (any_of HT_.out (by kernel_rfl)) (fun _ _ _ h => h) (Or.inl ⟨by rfl, ?_⟩) ?_ ?_
                         rotate_left
                         ·intro w'
                          go_simp
                          with_reducible rfl
                         rotate_left
                         ·simp only [Act.put, sa_, sz_, ss_, i64_w, i32_w]
                          rfl
                         refine take_ (i := 4) (N := some 155) (v := ?_) (a' := ?_) #[true, true, true, true, true, false, true, true, false, false, true, false, false] rfl rfl (take_ofW HT_.out HW_.out (by kernel_rfl)) (fun _ _ _ h => h) (Or.inl ⟨by rfl, ?_⟩) hHeld ?_ ?_
                         rotate_left
                         ·rintro w' ⟨s0, s1, s2, s3, s4⟩
                          go_simp
                          with_reducible rfl
                         rotate_left
                         ·simp only [Act.put, sa_, sz_, ss_, i64_w, i32_w]
                          rfl
                         refine pure_ (i := 5) (N := some 156) (v := ?_) (a' := ?_) #[true, true, true, true, true, true, true, true, false, false, true, false, false] rfl rfl (any_of HT_.out (by kernel_rfl)) (fun _ _ _ h => h) (Or.inl ⟨by rfl, ?_⟩) ?_ ?_
                         rotate_left
                         ·intro w'
                          go_simp
                          with_reducible rfl
                         rotate_left
                         ·simp only [Act.put, sa_, sz_, ss_, i64_w, i32_w]
                          rfl
                         refine pure_ (i := 11) (N := some 2) (v := ?_) (a' := ?_) #[true, true, true, true, true, true, true, true, false, false, true, true, false] rfl rfl (any_of HT_.out (by kernel_rfl)) (fun _ _ _ h => h) (Or.inl ⟨by rfl, ?_⟩) ?_ ?_
                         rotate_left
                         ·intro w'
                          go_simp
                          with_reducible rfl
                         rotate_left
                         ·simp only [Act.put, sa_, sz_, ss_, i64_w, i32_w]
                          rfl
                         refine take_ (i := 8) (N := some 159) (v := ?_) (a' := ?_) #[true, true, true, true, true, true, true, true, true, false, true, true, false] rfl rfl (take_ofW HT_.out HW_.out (by kernel_rfl)) (fun _ _ _ h => h) (Or.inl ⟨by rfl, ?_⟩) hHeld ?_ ?_
                         rotate_left
                         ·rintro w' ⟨s0, s1, s2, s3, s4⟩
                          go_simp
                          with_reducible rfl
                         rotate_left
                         ·simp only [Act.put, sa_, sz_, ss_, i64_w, i32_w]
                          rfl
                         refine pure_ (i := 9) (N := some 160) (v := ?_) (a' := ?_) #[true, true, true, true, true, true, true, true, true, true, true, true, false] rfl rfl (any_of HT_.out (by kernel_rfl)) (fun _ _ _ h => h) (Or.inl ⟨by rfl, ?_⟩) ?_ ?_
                         rotate_left
                         ·intro w'
                          go_simp
                          with_reducible rfl
                         rotate_left
                         ·simp only [Act.put, sa_, sz_, ss_, i64_w, i32_w]
                          rfl
                         refine pure_ (i := 12) (N := some 15) (v := ?_) (a' := ?_) #[true, true, true, true, true, true, true, true, true, true, true, true, true] rfl rfl (any_of HT_.out (by kernel_rfl)) (fun _ _ _ h => h) (Or.inl ⟨by rfl, ?_⟩) ?_ ?_
                         rotate_left
                         ·intro w'
                          go_simp
                          with_reducible rfl
                         rotate_left
                         ·simp only [Act.put, sa_, sz_, ss_, i64_w, i32_w]
                          rfl
                         refine done_ (done_of HT_.out (by kernel_rfl)) ?_
                         go_upto_region 26 with (fail)
                         go_cut [173] (fun v173 wc => ∃ (kq : Nat) (x173_140 : Bool), v173 = .bool x173_140 ∧ Aside0 (standstilllaw05_BlockParts.j6 kq t242 (wrap64 (x17_77 + t244)) l3 (wrap64 (1 + (Int.tmod (wrap64 (a4)) (wrap64 ((l3.length : Int) - 1))))) x14_6 (wrap64 (x15_2 + t243)) x16_2 x173_140 a0_0 a0_1 l0_2 t221 t222 t223 t224 t225 t241 t242 t243 t244 t245 = some r) ∧ Aside0 (kq ≤ k6) ∧ Aside0 (Kd.R (Kd.int .i64) 3 wc w.heap.size (fun k_ => some k_ ≠ ((.slice Ao69 t225.length co69) : Value).ownBlock ∧ some k_ ≠ ((.slice Ao117 t245.length co117) : Value).ownBlock) (.slice Ao109 x14_6.length co109) x14_6) ∧ Aside0 (Kd.R (Kd.int .i64) 3 wc w.heap.size (fun k_ => some k_ ≠ ((.slice Ao109 x14_6.length co109) : Value).ownBlock ∧ some k_ ≠ ((.slice Ao117 t245.length co117) : Value).ownBlock) (.slice Ao69 t225.length co69) t225) ∧ Aside0 (Kd.R (Kd.int .i64) 3 wc w.heap.size (fun k_ => some k_ ≠ ((.slice Ao109 x14_6.length co109) : Value).ownBlock ∧ some k_ ≠ ((.slice Ao69 t225.length co69) : Value).ownBlock) (.slice Ao117 t245.length co117) t245) ∧ Aside0 (wc.heap[gb216]? = some (.cells #[.int .i64 a0_0, .int .i64 a0_1, (.slice A0_2 l0_2.length c0_2)] 24 (0, 0))) ∧ Aside0 (wc.heap[gb229]? = some (.cells #[.int .i64 t221, .int .i64 t222, .int .i64 t223, .int .i64 t224, (.slice Ao69 t225.length co69)] 29 (0, 0))) ∧ Aside0 (wc.heap[gb249]? = some (.cells #[.int .i64 t241, .int .i64 t242, .int .i64 t243, .int .i64 t244, (.slice Ao117 t245.length co117)] 29 (0, 0))) ∧ Aside0 (Below w.heap.size w wc))
                         case first => as_aux_lemma =>
                          have H := HC141.out
                          clear HC141
                          by_cases c146 : t241 = 2
                          ·rw [if_pos c146] at H
                           have c146b0 : (t241 == 2) = true := beq_iff_eq.mpr c146
                           have c146b1 : (t241 != 2) = false := bne_eq_false_iff_eq.mpr c146
                           clear c146
                           (first | rw [c146b0] | (simp only [i64_w, i32_w]; rw [c146b0]) | skip)
                           have H' := Aside0.mk H
                           clear H
                           have hnb147 := NB249_216.out
                           have hnc147 := NB216_249.out
                           have hnb148 := NB249_229.out
                           have hnc148 := NB229_249.out
                           have hcz149_0 : w145.cell? ⟨gb249, 0, none⟩ = some (.int .i64 t241) := (blk_cell BK249.out 0).trans rfl
                           have hcz149_1 : w145.cell? ⟨gb249, 1, none⟩ = some (.int .i64 t242) := (blk_cell BK249.out 1).trans rfl
                           have hcz149_2 : w145.cell? ⟨gb249, 2, none⟩ = some (.int .i64 t243) := (blk_cell BK249.out 2).trans rfl
                           have hcz149_3 : w145.cell? ⟨gb249, 3, none⟩ = some (.int .i64 t244) := (blk_cell BK249.out 3).trans rfl
                           have hcz149_4 : w145.cell? ⟨gb249, 4, none⟩ = some (.slice Ao117 t245.length co117) := (blk_cell BK249.out 4).trans rfl
                           have hfz149_0 := blk_frozen BK249.out 0
                           have hfz149_1 := blk_frozen BK249.out 1
                           have hfz149_2 := blk_frozen BK249.out 2
                           have hfz149_3 := blk_frozen BK249.out 3
                           have hfz149_4 := blk_frozen BK249.out 4
                           go_wp2
                           go_meet
                           case rel => exact ⟨_, (true), jr_, H', ⟨by have := HJ5.out; have := HK2.out; have := HJ72.out; have := HJ77.out; have := HJ105.out; have := HK6.out; first | omega | exact Nat.le_refl _⟩, ⟨by (try simp only [hl14_6]); (with_reducible repeat (first | apply Kd.R_alloc | apply Kd.R_drewN | apply Kd.R_drew)); exact HO_14.out⟩, ⟨by (try simp only [hl14_6]); (with_reducible repeat (first | apply Kd.R_alloc | apply Kd.R_drewN | apply Kd.R_drew)); exact HO_230004.out⟩, ⟨by (try simp only [hl14_6]); (with_reducible repeat (first | apply Kd.R_alloc | apply Kd.R_drewN | apply Kd.R_drew)); exact HO_250004.out⟩, ⟨by (try simp only [hl14_6]); exact pk_ BK216.out⟩, ⟨by (try simp only [hl14_6]); exact pk_ BK229.out⟩, ⟨by (try simp only [hl14_6]); exact pk_ BK249.out⟩, ⟨bk_ HB.out⟩⟩
                          ·rw [if_neg c146] at H
                           have c146b0 : (t241 == 2) = false := beq_eq_false_iff_ne.mpr c146
                           have c146b1 : (t241 != 2) = true := bne_iff_ne.mpr c146
                           (first | rw [c146b0] | (simp only [i64_w, i32_w]; rw [c146b0]) | skip)
                           by_cases c150 : (wrap64 (x17_77 + t244)) < 0
                           ·rw [if_pos c150] at H
                            have c150b0 : decide ((wrap64 (x17_77 + t244)) < 0) = true := decide_eq_true c150
                            clear c150
                            have H' := Aside0.mk H
                            clear H
                            have hnb151 := NB249_216.out
                            have hnc151 := NB216_249.out
                            have hnb152 := NB249_229.out
                            have hnc152 := NB229_249.out
                            have hcz153_0 : w145.cell? ⟨gb249, 0, none⟩ = some (.int .i64 t241) := (blk_cell BK249.out 0).trans rfl
                            have hcz153_1 : w145.cell? ⟨gb249, 1, none⟩ = some (.int .i64 t242) := (blk_cell BK249.out 1).trans rfl
                            have hcz153_2 : w145.cell? ⟨gb249, 2, none⟩ = some (.int .i64 t243) := (blk_cell BK249.out 2).trans rfl
                            have hcz153_3 : w145.cell? ⟨gb249, 3, none⟩ = some (.int .i64 t244) := (blk_cell BK249.out 3).trans rfl
                            have hcz153_4 : w145.cell? ⟨gb249, 4, none⟩ = some (.slice Ao117 t245.length co117) := (blk_cell BK249.out 4).trans rfl
                            have hfz153_0 := blk_frozen BK249.out 0
                            have hfz153_1 := blk_frozen BK249.out 1
                            have hfz153_2 := blk_frozen BK249.out 2
                            have hfz153_3 := blk_frozen BK249.out 3
                            have hfz153_4 := blk_frozen BK249.out 4
                            go_wp2
                            go_meet
                            case rel => exact ⟨_, (true), jr_, H', ⟨by have := HJ5.out; have := HK2.out; have := HJ72.out; have := HJ77.out; have := HJ105.out; have := HK6.out; first | omega | exact Nat.le_refl _⟩, ⟨by (try simp only [hl14_6]); (with_reducible repeat (first | apply Kd.R_alloc | apply Kd.R_drewN | apply Kd.R_drew)); exact HO_14.out⟩, ⟨by (try simp only [hl14_6]); (with_reducible repeat (first | apply Kd.R_alloc | apply Kd.R_drewN | apply Kd.R_drew)); exact HO_230004.out⟩, ⟨by (try simp only [hl14_6]); (with_reducible repeat (first | apply Kd.R_alloc | apply Kd.R_drewN | apply Kd.R_drew)); exact HO_250004.out⟩, ⟨by (try simp only [hl14_6]); exact pk_ BK216.out⟩, ⟨by (try simp only [hl14_6]); exact pk_ BK229.out⟩, ⟨by (try simp only [hl14_6]); exact pk_ BK249.out⟩, ⟨bk_ HB.out⟩⟩
                           ·rw [if_neg c150] at H
                            have c150b0 : decide ((wrap64 (x17_77 + t244)) < 0) = false := decide_eq_false c150
                            clear c150
                            have H' := Aside0.mk H
                            clear H
                            have hnb154 := NB249_216.out
                            have hnc154 := NB216_249.out
                            have hnb155 := NB249_229.out
                            have hnc155 := NB229_249.out
                            have hcz156_0 : w145.cell? ⟨gb249, 0, none⟩ = some (.int .i64 t241) := (blk_cell BK249.out 0).trans rfl
                            have hcz156_1 : w145.cell? ⟨gb249, 1, none⟩ = some (.int .i64 t242) := (blk_cell BK249.out 1).trans rfl
                            have hcz156_2 : w145.cell? ⟨gb249, 2, none⟩ = some (.int .i64 t243) := (blk_cell BK249.out 2).trans rfl
                            have hcz156_3 : w145.cell? ⟨gb249, 3, none⟩ = some (.int .i64 t244) := (blk_cell BK249.out 3).trans rfl
                            have hcz156_4 : w145.cell? ⟨gb249, 4, none⟩ = some (.slice Ao117 t245.length co117) := (blk_cell BK249.out 4).trans rfl
                            have hfz156_0 := blk_frozen BK249.out 0
                            have hfz156_1 := blk_frozen BK249.out 1
                            have hfz156_2 := blk_frozen BK249.out 2
                            have hfz156_3 := blk_frozen BK249.out 3
                            have hfz156_4 := blk_frozen BK249.out 4
                            go_wp2
                            go_meet
                            case rel => exact ⟨_, (decide ((wrap64 (x17_77 + t244)) ≥ (l3.length : Int))), jr_, H', ⟨by have := HJ5.out; have := HK2.out; have := HJ72.out; have := HJ77.out; have := HJ105.out; have := HK6.out; first | omega | exact Nat.le_refl _⟩, ⟨by (try simp only [hl14_6]); (with_reducible repeat (first | apply Kd.R_alloc | apply Kd.R_drewN | apply Kd.R_drew)); exact HO_14.out⟩, ⟨by (try simp only [hl14_6]); (with_reducible repeat (first | apply Kd.R_alloc | apply Kd.R_drewN | apply Kd.R_drew)); exact HO_230004.out⟩, ⟨by (try simp only [hl14_6]); (with_reducible repeat (first | apply Kd.R_alloc | apply Kd.R_drewN | apply Kd.R_drew)); exact HO_250004.out⟩, ⟨by (try simp only [hl14_6]); exact pk_ BK216.out⟩, ⟨by (try simp only [hl14_6]); exact pk_ BK229.out⟩, ⟨by (try simp only [hl14_6]); exact pk_ BK249.out⟩, ⟨bk_ HB.out⟩⟩
                         case rest => as_aux_lemma =>
                          clear HC141
                          (try clear c1); (try clear c85); (try clear c85b0); (try clear c85b1); (try clear c108); (try clear q108); (try clear c129); (try clear c130); (try clear c130b0); (try clear hcz121_0); (try clear hcz121_1); (try clear hcz121_2); (try clear hcz121_3); (try clear hcz121_4); (try clear hcz144_0); (try clear hcz144_1); (try clear hcz144_2); (try clear hcz144_3); (try clear hcz144_4); (try clear hfz121_0); (try clear hfz121_1); (try clear hfz121_2); (try clear hfz121_3); (try clear hfz121_4); (try clear hfz144_0); (try clear hfz144_1); (try clear hfz144_2); (try clear hfz144_3); (try clear hfz144_4); (try clear q0108); (try clear q108)
                          obtain ⟨kq, x173_140, rfl, HA, HJ140, HO_14, HO_230004, HO_250004, BK216, BK229, BK249, HB⟩ := hcut
                          cases kq with
                          | zero => exact absurd HA.out (by simp [standstilllaw05_BlockParts.j6])
                          | succ kj140 =>
                           have H := HA.out
                           clear HA
                           simp only [standstilllaw05_BlockParts.j6] at H
                           by_cases c157 : x173_140 = true
                           ·subst c157
                            have H1 : (if t221 = t241 then (if t222 = t242 then (if t224 = (wrap64 (x17_77 + t244)) then (if t223 = (wrap64 (x15_2 + t243)) then ((standstillref01_SameInts.f kj140 t225 x14_6).bind fun t253 => (if t253 = true then ((standstilllaw05_awake.f kj140).bind fun t254 => (some t254)) else (none))) else (none)) else (none)) else (none)) else (none)) = some r := by rw [if_pos rfl] at H; exact H
                            clear H
                            have H := H1
                            clear H1
                            by_cases c158 : t221 = t241
                            ·rw [if_pos c158] at H
                             have c158b0 : (t221 == t241) = true := beq_iff_eq.mpr c158
                             have c158b1 : (t221 != t241) = false := bne_eq_false_iff_eq.mpr c158
                             clear c158
                             by_cases c159 : t222 = t242
                             ·rw [if_pos c159] at H
                              have c159b0 : (t222 == t242) = true := beq_iff_eq.mpr c159
                              have c159b1 : (t222 != t242) = false := bne_eq_false_iff_eq.mpr c159
                              clear c159
                              by_cases c160 : t224 = (wrap64 (x17_77 + t244))
                              ·rw [if_pos c160] at H
                               have c160b0 : (t224 == (wrap64 (x17_77 + t244))) = true := beq_iff_eq.mpr c160
                               have c160b1 : (t224 != (wrap64 (x17_77 + t244))) = false := bne_eq_false_iff_eq.mpr c160
                               clear c160
                               by_cases c161 : t223 = (wrap64 (x15_2 + t243))
                               ·rw [if_pos c161] at H
                                have c161b0 : (t223 == (wrap64 (x15_2 + t243))) = true := beq_iff_eq.mpr c161
                                have c161b1 : (t223 != (wrap64 (x15_2 + t243))) = false := bne_eq_false_iff_eq.mpr c161
                                clear c161
                                replace H := Option.bind_eq_some_iff.mp H
                                obtain ⟨t253, A1620, H⟩ := H
                                replace H : (if t253 = true then ((standstilllaw05_awake.f kj140).bind fun t254 => (some t254)) else (none)) = some r := H
                                have A162 := Aside0.mk A1620
                                clear A1620
                                by_cases c163 : t253 = true
                                ·subst c163
                                 have H1 : ((standstilllaw05_awake.f kj140).bind fun t254 => (some t254)) = some r := by rw [if_pos rfl] at H; exact H
                                 clear H
                                 have H := H1
                                 clear H1
                                 replace H := Option.bind_eq_some_iff.mp H
                                 obtain ⟨t254, A1640, H⟩ := H
                                 replace H : (some t254) = some r := H
                                 have A164 := Aside0.mk A1640
                                 clear A1640
                                 obtain rfl := Option.some.inj H
                                 have hnb165 := NB249_216.out
                                 have hnc165 := NB216_249.out
                                 have hnb166 := NB249_229.out
                                 have hnc166 := NB229_249.out
                                 have hcz167_0 : wc.cell? ⟨gb249, 0, none⟩ = some (.int .i64 t241) := (blk_cell BK249.out 0).trans rfl
                                 have hcz167_1 : wc.cell? ⟨gb249, 1, none⟩ = some (.int .i64 t242) := (blk_cell BK249.out 1).trans rfl
                                 have hcz167_2 : wc.cell? ⟨gb249, 2, none⟩ = some (.int .i64 t243) := (blk_cell BK249.out 2).trans rfl
                                 have hcz167_3 : wc.cell? ⟨gb249, 3, none⟩ = some (.int .i64 t244) := (blk_cell BK249.out 3).trans rfl
                                 have hcz167_4 : wc.cell? ⟨gb249, 4, none⟩ = some (.slice Ao117 t245.length co117) := (blk_cell BK249.out 4).trans rfl
                                 have hfz167_0 := blk_frozen BK249.out 0
                                 have hfz167_1 := blk_frozen BK249.out 1
                                 have hfz167_2 := blk_frozen BK249.out 2
                                 have hfz167_3 := blk_frozen BK249.out 3
                                 have hfz167_4 := blk_frozen BK249.out 4
                                 have hnb168 := NB229_216.out
                                 have hnc168 := NB216_229.out
                                 have hcz169_0 : wc.cell? ⟨gb229, 0, none⟩ = some (.int .i64 t221) := (blk_cell BK229.out 0).trans rfl
                                 have hcz169_1 : wc.cell? ⟨gb229, 1, none⟩ = some (.int .i64 t222) := (blk_cell BK229.out 1).trans rfl
                                 have hcz169_2 : wc.cell? ⟨gb229, 2, none⟩ = some (.int .i64 t223) := (blk_cell BK229.out 2).trans rfl
                                 have hcz169_3 : wc.cell? ⟨gb229, 3, none⟩ = some (.int .i64 t224) := (blk_cell BK229.out 3).trans rfl
                                 have hcz169_4 : wc.cell? ⟨gb229, 4, none⟩ = some (.slice Ao69 t225.length co69) := (blk_cell BK229.out 4).trans rfl
                                 have hfz169_0 := blk_frozen BK229.out 0
                                 have hfz169_1 := blk_frozen BK229.out 1
                                 have hfz169_2 := blk_frozen BK229.out 2
                                 have hfz169_3 := blk_frozen BK229.out 3
                                 have hfz169_4 := blk_frozen BK229.out 4
                                 go_wp2_with (first | (go_at_call 14; (with_reducible refine (standstillref01_SameInts.calls kj140 _ _ t225 _ _ x14_6 true _ ?side1 ?side2 ?side3 ?side4 A162.out).mono ?_); (case side1 => repeat (first | exact (Kd.R_reads' HO_230004.out).2.2 | (with_reducible refine Kd.C_alloc ?_ _) | (with_reducible refine Kd.C_drewN ?_ _) | (with_reducible refine Kd.C_drew ?_))); (case side2 => exact (Kd.R_reads' HO_230004.out).2.1); (case side3 => repeat (first | exact (Kd.R_reads' HO_14.out).2.2 | (with_reducible refine Kd.C_alloc ?_ _) | (with_reducible refine Kd.C_drewN ?_ _) | (with_reducible refine Kd.C_drew ?_))); (case side4 => exact (Kd.R_reads' HO_14.out).2.1); rintro e w' ⟨rfl, ⟨nd, rfl⟩⟩) | (go_at_call 8; (with_reducible refine (standstilllaw05_awake.calls kj140  t254 _ A164.out).mono ?_); rintro e w170 ⟨rfl, hb⟩; have n0_ := A_ (Kd.R_below (rk_ HO_14.out) hb); have n1_ := A_ (Kd.R_below (rk_ HO_230004.out) hb); have n2_ := A_ (Kd.R_below (rk_ HO_250004.out) hb); have n3_ := A_ (blk_below (pk_ BK216.out) hb); have n4_ := A_ (blk_below (pk_ BK229.out) hb); have n5_ := A_ (blk_below (pk_ BK249.out) hb); have n6_ := A_ (below_step (bk_ HB.out) hb); clear HO_14 HO_230004 HO_250004 BK216 BK229 BK249 HB; have HO_14 := n0_; have HO_230004 := n1_; have HO_250004 := n2_; have BK216 := n3_; have BK229 := n4_; have BK249 := n5_; have HB := n6_; clear n0_ n1_ n2_ n3_ n4_ n5_ n6_; (try clear hb); (try clear hb2); (try clear hk); (try clear hi)))
                                 go_ret
                                 exact ⟨er_, bk_ HB.out⟩
                                ·replace c163 := Bool.eq_false_iff.mpr c163
                                 subst c163
                                 have H1 : (none) = some r := by rw [if_neg (show ¬ (false = true) by decide)] at H; exact H
                                 clear H
                                 have H := H1
                                 clear H1
                                 exact absurd H (by simp)
                               ·rw [if_neg c161] at H
                                exact absurd H (by simp)
                              ·rw [if_neg c160] at H
                               exact absurd H (by simp)
                             ·rw [if_neg c159] at H
                              exact absurd H (by simp)
                            ·rw [if_neg c158] at H
                             exact absurd H (by simp)
                           ·replace c157 := Bool.eq_false_iff.mpr c157
                            subst c157
                            have H1 : (if t221 = 3 then (standstilllaw05_BlockParts.l0 kj140 t242 (wrap64 (x17_77 + t244)) l3 (wrap64 (1 + (Int.tmod (wrap64 (a4)) (wrap64 ((l3.length : Int) - 1))))) x14_6 (wrap64 (x15_2 + t243)) (wrap64 (x16_2 + 1)) a0_0 a0_1 l0_2 t221 t222 t223 t224 t225) else (if (wrap64 (x15_2 + t243)) > t223 then (none) else (standstilllaw05_BlockParts.l0 kj140 t242 (wrap64 (x17_77 + t244)) l3 (wrap64 (1 + (Int.tmod (wrap64 (a4)) (wrap64 ((l3.length : Int) - 1))))) x14_6 (wrap64 (x15_2 + t243)) (wrap64 (x16_2 + 1)) a0_0 a0_1 l0_2 t221 t222 t223 t224 t225))) = some r := by rw [if_neg (show ¬ (false = true) by decide)] at H; exact H
                            clear H
                            have H := H1
                            clear H1
                            by_cases c171 : t221 = 3
                            ·rw [if_pos c171] at H
                             have c171b0 : (t221 == 3) = true := beq_iff_eq.mpr c171
                             have c171b1 : (t221 != 3) = false := bne_eq_false_iff_eq.mpr c171
                             clear c171
                             have H' := Aside0.mk H
                             clear H
                             have hnb172 := NB229_216.out
                             have hnc172 := NB216_229.out
                             have hnb173 := NB229_249.out
                             have hnc173 := NB249_229.out
                             have hcz174_0 : wc.cell? ⟨gb229, 0, none⟩ = some (.int .i64 t221) := (blk_cell BK229.out 0).trans rfl
                             have hcz174_1 : wc.cell? ⟨gb229, 1, none⟩ = some (.int .i64 t222) := (blk_cell BK229.out 1).trans rfl
                             have hcz174_2 : wc.cell? ⟨gb229, 2, none⟩ = some (.int .i64 t223) := (blk_cell BK229.out 2).trans rfl
                             have hcz174_3 : wc.cell? ⟨gb229, 3, none⟩ = some (.int .i64 t224) := (blk_cell BK229.out 3).trans rfl
                             have hcz174_4 : wc.cell? ⟨gb229, 4, none⟩ = some (.slice Ao69 t225.length co69) := (blk_cell BK229.out 4).trans rfl
                             have hfz174_0 := blk_frozen BK229.out 0
                             have hfz174_1 := blk_frozen BK229.out 1
                             have hfz174_2 := blk_frozen BK229.out 2
                             have hfz174_3 := blk_frozen BK229.out 3
                             have hfz174_4 := blk_frozen BK229.out 4
                             go_wp2
                             (try simp only [← hl14_6])
                             go_roundg kj140
                             case measure => have := HJ5.out; have := HK2.out; have := HJ72.out; have := HJ77.out; have := HJ105.out; have := HK6.out; have := HJ140.out; omega
                             case rel => exact ⟨(t242), ((wrap64 (x17_77 + t244))), (x14_6), ((wrap64 (x15_2 + t243))), (wrap64 (x16_2 + 1)), jr_, jr_, jr_, jr_, H', ⟨by have := HJ5.out; have := HK2.out; have := HJ72.out; have := HJ77.out; have := HJ105.out; have := HK6.out; have := HJ140.out; omega⟩, ⟨by (try simp only [hl14_6]); (with_reducible repeat (first | apply Kd.R_alloc | apply Kd.R_drewN | apply Kd.R_drew)); exact Kd.R_mono HO_14.out (fun _ hk => hk.1)⟩, ⟨by (try simp only [hl14_6]); (with_reducible repeat (first | apply Kd.R_alloc | apply Kd.R_drewN | apply Kd.R_drew)); exact Kd.R_mono HO_230004.out (fun _ hk => hk.1)⟩, ⟨by (try simp only [hl14_6]); exact pk_ BK216.out⟩, ⟨by (try simp only [hl14_6]); exact pk_ BK229.out⟩, ⟨bk_ HB.out⟩⟩
                            ·rw [if_neg c171] at H
                             have c171b0 : (t221 == 3) = false := beq_eq_false_iff_ne.mpr c171
                             have c171b1 : (t221 != 3) = true := bne_iff_ne.mpr c171
                             by_cases c175 : (wrap64 (x15_2 + t243)) > t223
                             ·rw [if_pos c175] at H
                              exact absurd H (by simp)
                             ·rw [if_neg c175] at H
                              have c175b0 : decide (t223 < (wrap64 (x15_2 + t243))) = false := decide_eq_false c175
                              clear c175
                              have H' := Aside0.mk H
                              clear H
                              have hnb176 := NB229_216.out
                              have hnc176 := NB216_229.out
                              have hnb177 := NB229_249.out
                              have hnc177 := NB249_229.out
                              have hcz178_0 : wc.cell? ⟨gb229, 0, none⟩ = some (.int .i64 t221) := (blk_cell BK229.out 0).trans rfl
                              have hcz178_1 : wc.cell? ⟨gb229, 1, none⟩ = some (.int .i64 t222) := (blk_cell BK229.out 1).trans rfl
                              have hcz178_2 : wc.cell? ⟨gb229, 2, none⟩ = some (.int .i64 t223) := (blk_cell BK229.out 2).trans rfl
                              have hcz178_3 : wc.cell? ⟨gb229, 3, none⟩ = some (.int .i64 t224) := (blk_cell BK229.out 3).trans rfl
                              have hcz178_4 : wc.cell? ⟨gb229, 4, none⟩ = some (.slice Ao69 t225.length co69) := (blk_cell BK229.out 4).trans rfl
                              have hfz178_0 := blk_frozen BK229.out 0
                              have hfz178_1 := blk_frozen BK229.out 1
                              have hfz178_2 := blk_frozen BK229.out 2
                              have hfz178_3 := blk_frozen BK229.out 3
                              have hfz178_4 := blk_frozen BK229.out 4
                              go_wp2
                              (try simp only [← hl14_6])
                              go_roundg kj140
                              case measure => have := HJ5.out; have := HK2.out; have := HJ72.out; have := HJ77.out; have := HJ105.out; have := HK6.out; have := HJ140.out; omega
                              case rel => exact ⟨(t242), ((wrap64 (x17_77 + t244))), (x14_6), ((wrap64 (x15_2 + t243))), (wrap64 (x16_2 + 1)), jr_, jr_, jr_, jr_, H', ⟨by have := HJ5.out; have := HK2.out; have := HJ72.out; have := HJ77.out; have := HJ105.out; have := HK6.out; have := HJ140.out; omega⟩, ⟨by (try simp only [hl14_6]); (with_reducible repeat (first | apply Kd.R_alloc | apply Kd.R_drewN | apply Kd.R_drew)); exact Kd.R_mono HO_14.out (fun _ hk => hk.1)⟩, ⟨by (try simp only [hl14_6]); (with_reducible repeat (first | apply Kd.R_alloc | apply Kd.R_drewN | apply Kd.R_drew)); exact Kd.R_mono HO_230004.out (fun _ hk => hk.1)⟩, ⟨by (try simp only [hl14_6]); exact pk_ BK216.out⟩, ⟨by (try simp only [hl14_6]); exact pk_ BK229.out⟩, ⟨bk_ HB.out⟩⟩
                 ·rw [if_neg c84] at H
                  exact absurd H (by simp)
                ·rw [if_neg c82] at H
                 exact absurd H (by simp)
               ·rw [if_neg c81] at H
                exact absurd H (by simp)
              ·rw [if_neg c80] at H
               exact absurd H (by simp)
           ·replace c77 := Bool.eq_false_iff.mpr c77
            subst c77
            have H1 : ((standstilllaw05_awake.f kj72).bind fun t236 => (some t236)) = some r := by rw [if_neg (show ¬ (false = true) by decide)] at H; exact H
            clear H
            have H := H1
            clear H1
            replace H := Option.bind_eq_some_iff.mp H
            obtain ⟨t236, A1790, H⟩ := H
            replace H : (some t236) = some r := H
            have A179 := Aside0.mk A1790
            clear A1790
            obtain rfl := Option.some.inj H
            go_wp2_with (first | ((with_reducible refine gate_callee (f := 8) rfl ?_); refine goesL_ (some 216) rfl rfl Try.func8 (by kernel_rfl) rfl #[] rfl gl_ ?_; (with_reducible refine (standstilllaw05_awake.calls kj72  t236 _ A179.out).mono ?_); rintro e w180 ⟨rfl, hb⟩; refine ⟨_, rfl, ?_⟩; have n0_ := A_ (Kd.R_below (rk_ HO_14.out) hb); have n1_ := A_ (Kd.R_below (rk_ HO_230004.out) hb); have n2_ := A_ (blk_below (pk_ BK216.out) hb); have n3_ := A_ (blk_below (pk_ BK229.out) hb); have n4_ := A_ (below_step (bk_ HB.out) hb); clear HO_14 HO_230004 BK216 BK229 HB; have HO_14 := n0_; have HO_230004 := n1_; have BK216 := n2_; have BK229 := n3_; have HB := n4_; clear n0_ n1_ n2_ n3_ n4_; (try clear hb); (try clear hb2); (try clear hk); (try clear hi)))
            go_ret
            exact ⟨er_, bk_ HB.out⟩
      ·rw [if_neg c63] at H
       exact absurd H (by simp)
     ·rw [if_neg c62] at H
      exact absurd H (by simp)

/-- THE ONE PURE STATEMENT of standstilllaw05_BlockParts. -/
def standstilllaw05_BlockParts.Pure : Prop := ∀ (a0_0 : Int) (a0_1 : Int) (l0_2 : List (List (S57))) (a1 : Int) (a2 : Int) (l3 : List Int) (a4 : Int), ((Lit.int .i64 a0_0).wf = true) → ((Lit.int .i64 a0_1).wf = true) → (l0_2.length * 24 ≤ 140737488351232 ∧ ∀ y_ ∈ l0_2, (y_.length * 24 ≤ 140737488351232 ∧ ∀ y__ ∈ y_, inv57 y__)) → ((Lit.int .i64 a1).wf = true) → ((Lit.int .i64 a2).wf = true) → (l3.length * 8 ≤ 140737488351232 ∧ ∀ y_ ∈ l3, (Lit.int .i64 y_).wf = true) → ((Lit.int .u8 a4).wf = true) → ∃ k, standstilllaw05_BlockParts.f k a0_0 a0_1 l0_2 a1 a2 l3 a4 = some true

end Go.Proofs.Ytcdejoaekkcknaa.PBlockParts
