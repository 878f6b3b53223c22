-- out of a turned copy of the print, by a program of this session; Lean checks it
import Derived.Test.YtkbekdjoaibhbaaPPairShapesx0
import Derived.Test.YtkbekdjoaibhbaaPPairShapesx2
import Derived.Test.YtkbekdjoaibhbaaPPairShapesx5
import Derived.Test.YtkbekdjoaibhbaaPPairShapesx6
import Derived.Test.YtkbekdjoaibhbaaPPairShapesx7
import Derived.Test.YtkbekdjoaibhbaaPPairShapesx8
import Derived.Test.YtkbekdjoaibhbaaPPairShapesx9
namespace Go.Proofs.Ytkbekdjoaibhbaa.PPairShapes
open Go.RowKit Go.Proofs.YtkbekdjoaibhbaaW.PrintWords Go.Proofs.YtkbekdjoaibhbaaW.PrintLast Go.Proofs.YtkbekdjoaibhbaaW.PrintMore
attribute [local go_sem] max2_int min2_int max_two min_two max_three min_three max_four min_four   -- for this text's walks alone
set_option linter.unusedVariables false
set_option linter.unusedSimpArgs false

attribute [local go_sem] isSome_put_
/-! ### standstilllaw08_awake: function 7 -/
def standstilllaw08_awake.j0 : Nat → List Int → Bool → Int → List (S45) → Option (Bool)
 | 0, _, _, _, _ => none
 | k + 1, x8, x87, x184000, x184001 => if x87 = true then (some false) else (if 0 < (x8.length : Int) then ((standstillref06_Run.f x184000 x184001 (rd x8 0) (([8, 0] : List Int)) 100000).bind fun bt192 => (if bt192.2.2.2 = true then (if 2 < (x8.length : Int) then (if bt192.1 = (rd x8 2) then ((standstillref06_SameCount.f k bt192.1 bt192.2.1 (rd x8 2) (([27, 0] : List Int))).bind fun t204 => (some t204)) else (some false)) else (none)) else (some false))) else (none))
def standstilllaw08_awake.f (k : Nat)  : Option (Bool) := (pair_Encode.f k (([3, 1] : List Int))).bind fun bt161 => ((pair_Decode.f k 24 2).bind fun bt163 => ((pair_Decode.f k 10 2).bind fun bt167 => ((standstilllaw06_Moves.f).bind fun bt171 => ((pair_Two.f k bt171.1 bt171.2).bind fun bt175 => (if bt161.2 = 0 then (if bt163.2 = 0 then (if bt167.2 = 6 then (if bt175.2.2.2 = 0 then (if bt161.1 = 24 then (if (bt163.1.length : Int) = 2 then (if 0 < (bt163.1.length : Int) then (if (rd bt163.1 0) = 3 then (if 1 < (bt163.1.length : Int) then (if (rd bt163.1 1) = 1 then (if (bt175.2.2.1.length : Int) = 3 then ((standstillref06_Valid.f k bt175.1 bt175.2.1).bind fun t186 => (if t186 = true then (if bt175.1 = 2 then ((standstillref06_Points.f k bt175.1 bt175.2.1 bt175.2.2.1).bind fun t187 => (standstilllaw08_awake.j0 k bt175.2.2.1 (!t187) bt175.1 bt175.2.1)) else (standstilllaw08_awake.j0 k bt175.2.2.1 true bt175.1 bt175.2.1)) else (standstilllaw08_awake.j0 k bt175.2.2.1 true bt175.1 bt175.2.1))) else (standstilllaw08_awake.j0 k bt175.2.2.1 true bt175.1 bt175.2.1)) else (standstilllaw08_awake.j0 k bt175.2.2.1 true bt175.1 bt175.2.1)) else (none)) else (standstilllaw08_awake.j0 k bt175.2.2.1 true bt175.1 bt175.2.1)) else (none)) else (standstilllaw08_awake.j0 k bt175.2.2.1 true bt175.1 bt175.2.1)) else (standstilllaw08_awake.j0 k bt175.2.2.1 true bt175.1 bt175.2.1)) else (standstilllaw08_awake.j0 k bt175.2.2.1 true bt175.1 bt175.2.1)) else (standstilllaw08_awake.j0 k bt175.2.2.1 true bt175.1 bt175.2.1)) else (standstilllaw08_awake.j0 k bt175.2.2.1 true bt175.1 bt175.2.1)) else (standstilllaw08_awake.j0 k bt175.2.2.1 true bt175.1 bt175.2.1))))))
theorem standstilllaw08_awake.mono_l : ∀ k, (∀ y0 y1 y2 y3, LeO (standstilllaw08_awake.j0 k y0 y1 y2 y3) (standstilllaw08_awake.j0 (k + 1) y0 y1 y2 y3))
 | 0 => fun _ _ _ _ r h => by simp [standstilllaw08_awake.j0] at h
 | k + 1 => by
  have ih0 := standstilllaw08_awake.mono_l k
  ·intro y0 y1 y2 y3
   unfold standstilllaw08_awake.j0
   repeat' first
   | (with_reducible exact ih0 _ _ _ _)
   | (with_reducible exact pair_Decode.mono _ _ _)
   | (with_reducible exact pair_Encode.mono _ _)
   | (with_reducible exact pair_Two.mono _ _ _)
   | (with_reducible exact standstillref06_Points.mono _ _ _ _)
   | (with_reducible exact standstillref06_SameCount.mono _ _ _ _ _)
   | (with_reducible exact standstillref06_Valid.mono _ _ _)
   | (with_reducible exact LeO.refl _)
   | (with_reducible exact LeO.none _)
   | (with_reducible refine LeO.ite ?_ ?_)
   | (with_reducible refine LeO.bind ?_ (fun _ => ?_))
   | exact ih0 _ _ _ _
   | exact pair_Decode.mono _ _ _
   | exact pair_Encode.mono _ _
   | exact pair_Two.mono _ _ _
   | exact standstillref06_Points.mono _ _ _ _
   | exact standstillref06_SameCount.mono _ _ _ _ _
   | exact standstillref06_Valid.mono _ _ _
   | exact LeO.none _
   | refine LeO.ite ?_ ?_
   | refine LeO.bind ?_ (fun _ => ?_)
theorem standstilllaw08_awake.mono : ∀ k, LeO (standstilllaw08_awake.f k ) (standstilllaw08_awake.f (k + 1) ) := by
 intro  k
 have ih0 := standstilllaw08_awake.mono_l k
 unfold standstilllaw08_awake.f
 repeat' first
   | (with_reducible exact ih0 _ _ _ _)
   | (with_reducible exact pair_Decode.mono _ _ _)
   | (with_reducible exact pair_Encode.mono _ _)
   | (with_reducible exact pair_Two.mono _ _ _)
   | (with_reducible exact standstillref06_Points.mono _ _ _ _)
   | (with_reducible exact standstillref06_SameCount.mono _ _ _ _ _)
   | (with_reducible exact standstillref06_Valid.mono _ _ _)
   | (with_reducible exact LeO.refl _)
   | (with_reducible exact LeO.none _)
   | (with_reducible refine LeO.ite ?_ ?_)
   | (with_reducible refine LeO.bind ?_ (fun _ => ?_))
   | exact ih0 _ _ _ _
   | exact pair_Decode.mono _ _ _
   | exact pair_Encode.mono _ _
   | exact pair_Two.mono _ _ _
   | exact standstillref06_Points.mono _ _ _ _
   | exact standstillref06_SameCount.mono _ _ _ _ _
   | exact standstillref06_Valid.mono _ _ _
   | exact LeO.none _
   | refine LeO.ite ?_ ?_
   | refine LeO.bind ?_ (fun _ => ?_)
def standstilllaw08_awake.T7 : Bool × List (List Nat × List Nat) := (true, [([], []), ([], []), ([1], [1]), ([2], [2]), ([], []), ([3, 4], [3, 4]), ([0, 5], [0, 5]), ([6], [6]), ([7], [7]), ([7], [7]), ([7], [7]), ([], []), ([11, 8, 6, 0, 1, 2, 3, 4, 5, 6, 7, 8, 11], [8, 11]), ([9, 12, 0, 1, 2, 3, 4, 5, 6, 7, 8, 9, 11, 12], [9]), ([10, 13, 0, 1, 2, 3, 4, 5, 6, 7, 8, 9, 10, 11, 12, 13], [10])])
def standstilllaw08_awake.B7 : List Nat := [0, 0, 2, 6, 0, 30, 63, 127, 255, 255, 255, 0, 2559, 7167, 16383]
theorem standstilllaw08_awake.tab7 : rtab .any (opsOf Try.f7 7) = standstilllaw08_awake.T7 := by kernel_rfl
theorem standstilllaw08_awake.bits7 : waitsOk standstilllaw08_awake.T7.2 standstilllaw08_awake.B7 = true := by kernel_rfl
def standstilllaw08_awake.T8 : Bool × List (List Nat × List Nat) := (true, [([], []), ([0], [0]), ([1], [1]), ([2, 1], [1, 2]), ([1], [1]), ([4, 1], [1, 4]), ([5, 1], [1, 5]), ([3, 6, 1], [1, 3, 6]), ([1, 7], [1, 7]), ([8, 1], [8]), ([9], [9]), ([9], [9]), ([11, 9], [9, 11]), ([12, 9], [9, 12]), ([9], [9]), ([13, 14, 9], [9, 13, 14]), ([10, 15, 9, 9], [9, 10, 15]), ([9, 16], [9, 16]), ([17, 16, 0, 1, 2, 3, 4, 5, 6, 7, 8, 9, 10, 11, 12, 13, 14, 15, 16, 17], [17])])
def standstilllaw08_awake.B8 : List Nat := [0, 1, 3, 7, 3, 19, 51, 127, 255, 511, 1023, 1023, 3071, 7167, 1023, 31743, 65535, 131071, 262143]
theorem standstilllaw08_awake.tab8 : rtab .any (opsOf Try.f7 8) = standstilllaw08_awake.T8 := by kernel_rfl
theorem standstilllaw08_awake.bits8 : waitsOk standstilllaw08_awake.T8.2 standstilllaw08_awake.B8 = true := by kernel_rfl
set_option maxHeartbeats 8000000 in
set_option maxRecDepth 100000 in
theorem standstilllaw08_awake.calls (k : Nat)  (r : Bool) (w : World) (h : standstilllaw08_awake.f k  = some r) :
  Calls Try.prog 7 #[] w fun e w' => e = .returned (.bool r) ∧ Below w.heap.size w w' := by
 have hu38 := Try.underlying38
 have hu47 := Try.underlying47
 have HB := A_ (Below.refl w.heap.size w)
 have H : ((pair_Encode.f k (([3, 1] : List Int))).bind fun bt161 => ((pair_Decode.f k 24 2).bind fun bt163 => ((pair_Decode.f k 10 2).bind fun bt167 => ((standstilllaw06_Moves.f).bind fun bt171 => ((pair_Two.f k bt171.1 bt171.2).bind fun bt175 => (if bt161.2 = 0 then (if bt163.2 = 0 then (if bt167.2 = 6 then (if bt175.2.2.2 = 0 then (if bt161.1 = 24 then (if (bt163.1.length : Int) = 2 then (if 0 < (bt163.1.length : Int) then (if (rd bt163.1 0) = 3 then (if 1 < (bt163.1.length : Int) then (if (rd bt163.1 1) = 1 then (if (bt175.2.2.1.length : Int) = 3 then ((standstillref06_Valid.f k bt175.1 bt175.2.1).bind fun t186 => (if t186 = true then (if bt175.1 = 2 then ((standstillref06_Points.f k bt175.1 bt175.2.1 bt175.2.2.1).bind fun t187 => (standstilllaw08_awake.j0 k bt175.2.2.1 (!t187) bt175.1 bt175.2.1)) else (standstilllaw08_awake.j0 k bt175.2.2.1 true bt175.1 bt175.2.1)) else (standstilllaw08_awake.j0 k bt175.2.2.1 true bt175.1 bt175.2.1))) else (standstilllaw08_awake.j0 k bt175.2.2.1 true bt175.1 bt175.2.1)) else (standstilllaw08_awake.j0 k bt175.2.2.1 true bt175.1 bt175.2.1)) else (none)) else (standstilllaw08_awake.j0 k bt175.2.2.1 true bt175.1 bt175.2.1)) else (none)) else (standstilllaw08_awake.j0 k bt175.2.2.1 true bt175.1 bt175.2.1)) else (standstilllaw08_awake.j0 k bt175.2.2.1 true bt175.1 bt175.2.1)) else (standstilllaw08_awake.j0 k bt175.2.2.1 true bt175.1 bt175.2.1)) else (standstilllaw08_awake.j0 k bt175.2.2.1 true bt175.1 bt175.2.1)) else (standstilllaw08_awake.j0 k bt175.2.2.1 true bt175.1 bt175.2.1)) else (standstilllaw08_awake.j0 k bt175.2.2.1 true bt175.1 bt175.2.1))))))) = some r := h
 clear h
 obtain ⟨y158, hy158⟩ : ∃ y_ : List Int, y_ = (([3, 1] : List Int)) := ⟨_, rfl⟩
 replace H : ((pair_Encode.f k y158).bind fun bt161 => ((pair_Decode.f k 24 2).bind fun bt163 => ((pair_Decode.f k 10 2).bind fun bt167 => ((standstilllaw06_Moves.f).bind fun bt171 => ((pair_Two.f k bt171.1 bt171.2).bind fun bt175 => (if bt161.2 = 0 then (if bt163.2 = 0 then (if bt167.2 = 6 then (if bt175.2.2.2 = 0 then (if bt161.1 = 24 then (if (bt163.1.length : Int) = 2 then (if 0 < (bt163.1.length : Int) then (if (rd bt163.1 0) = 3 then (if 1 < (bt163.1.length : Int) then (if (rd bt163.1 1) = 1 then (if (bt175.2.2.1.length : Int) = 3 then ((standstillref06_Valid.f k bt175.1 bt175.2.1).bind fun t186 => (if t186 = true then (if bt175.1 = 2 then ((standstillref06_Points.f k bt175.1 bt175.2.1 bt175.2.2.1).bind fun t187 => (standstilllaw08_awake.j0 k bt175.2.2.1 (!t187) bt175.1 bt175.2.1)) else (standstilllaw08_awake.j0 k bt175.2.2.1 true bt175.1 bt175.2.1)) else (standstilllaw08_awake.j0 k bt175.2.2.1 true bt175.1 bt175.2.1))) else (standstilllaw08_awake.j0 k bt175.2.2.1 true bt175.1 bt175.2.1)) else (standstilllaw08_awake.j0 k bt175.2.2.1 true bt175.1 bt175.2.1)) else (none)) else (standstilllaw08_awake.j0 k bt175.2.2.1 true bt175.1 bt175.2.1)) else (none)) else (standstilllaw08_awake.j0 k bt175.2.2.1 true bt175.1 bt175.2.1)) else (standstilllaw08_awake.j0 k bt175.2.2.1 true bt175.1 bt175.2.1)) else (standstilllaw08_awake.j0 k bt175.2.2.1 true bt175.1 bt175.2.1)) else (standstilllaw08_awake.j0 k bt175.2.2.1 true bt175.1 bt175.2.1)) else (standstilllaw08_awake.j0 k bt175.2.2.1 true bt175.1 bt175.2.1)) else (standstilllaw08_awake.j0 k bt175.2.2.1 true bt175.1 bt175.2.1))))))) = some r := by first | (rw [hy158]; with_reducible exact H) | (have H2_ := (Option.bind_some _ _).symm.trans H; rw [hy158]; with_reducible exact H2_) | (have H2_ := (Option.bind_some _ _).symm.trans H; with_reducible exact H2_) | with_reducible exact H | (rw [hy158]; exact H) | exact H
 have Ny158 := Aside0.mk hy158
 clear hy158
 replace H := Option.bind_eq_some_iff.mp H
 obtain ⟨⟨t161, t162⟩, A10, H⟩ := H
 replace H : ((pair_Decode.f k 24 2).bind fun bt163 => ((pair_Decode.f k 10 2).bind fun bt167 => ((standstilllaw06_Moves.f).bind fun bt171 => ((pair_Two.f k bt171.1 bt171.2).bind fun bt175 => (if t162 = 0 then (if bt163.2 = 0 then (if bt167.2 = 6 then (if bt175.2.2.2 = 0 then (if t161 = 24 then (if (bt163.1.length : Int) = 2 then (if 0 < (bt163.1.length : Int) then (if (rd bt163.1 0) = 3 then (if 1 < (bt163.1.length : Int) then (if (rd bt163.1 1) = 1 then (if (bt175.2.2.1.length : Int) = 3 then ((standstillref06_Valid.f k bt175.1 bt175.2.1).bind fun t186 => (if t186 = true then (if bt175.1 = 2 then ((standstillref06_Points.f k bt175.1 bt175.2.1 bt175.2.2.1).bind fun t187 => (standstilllaw08_awake.j0 k bt175.2.2.1 (!t187) bt175.1 bt175.2.1)) else (standstilllaw08_awake.j0 k bt175.2.2.1 true bt175.1 bt175.2.1)) else (standstilllaw08_awake.j0 k bt175.2.2.1 true bt175.1 bt175.2.1))) else (standstilllaw08_awake.j0 k bt175.2.2.1 true bt175.1 bt175.2.1)) else (standstilllaw08_awake.j0 k bt175.2.2.1 true bt175.1 bt175.2.1)) else (none)) else (standstilllaw08_awake.j0 k bt175.2.2.1 true bt175.1 bt175.2.1)) else (none)) else (standstilllaw08_awake.j0 k bt175.2.2.1 true bt175.1 bt175.2.1)) else (standstilllaw08_awake.j0 k bt175.2.2.1 true bt175.1 bt175.2.1)) else (standstilllaw08_awake.j0 k bt175.2.2.1 true bt175.1 bt175.2.1)) else (standstilllaw08_awake.j0 k bt175.2.2.1 true bt175.1 bt175.2.1)) else (standstilllaw08_awake.j0 k bt175.2.2.1 true bt175.1 bt175.2.1)) else (standstilllaw08_awake.j0 k bt175.2.2.1 true bt175.1 bt175.2.1)))))) = some r := H
 have A1 := Aside0.mk A10
 clear A10
 replace H := Option.bind_eq_some_iff.mp H
 obtain ⟨⟨t163, t164⟩, A20, H⟩ := H
 replace H : ((pair_Decode.f k 10 2).bind fun bt167 => ((standstilllaw06_Moves.f).bind fun bt171 => ((pair_Two.f k bt171.1 bt171.2).bind fun bt175 => (if t162 = 0 then (if t164 = 0 then (if bt167.2 = 6 then (if bt175.2.2.2 = 0 then (if t161 = 24 then (if (t163.length : Int) = 2 then (if 0 < (t163.length : Int) then (if (rd t163 0) = 3 then (if 1 < (t163.length : Int) then (if (rd t163 1) = 1 then (if (bt175.2.2.1.length : Int) = 3 then ((standstillref06_Valid.f k bt175.1 bt175.2.1).bind fun t186 => (if t186 = true then (if bt175.1 = 2 then ((standstillref06_Points.f k bt175.1 bt175.2.1 bt175.2.2.1).bind fun t187 => (standstilllaw08_awake.j0 k bt175.2.2.1 (!t187) bt175.1 bt175.2.1)) else (standstilllaw08_awake.j0 k bt175.2.2.1 true bt175.1 bt175.2.1)) else (standstilllaw08_awake.j0 k bt175.2.2.1 true bt175.1 bt175.2.1))) else (standstilllaw08_awake.j0 k bt175.2.2.1 true bt175.1 bt175.2.1)) else (standstilllaw08_awake.j0 k bt175.2.2.1 true bt175.1 bt175.2.1)) else (none)) else (standstilllaw08_awake.j0 k bt175.2.2.1 true bt175.1 bt175.2.1)) else (none)) else (standstilllaw08_awake.j0 k bt175.2.2.1 true bt175.1 bt175.2.1)) else (standstilllaw08_awake.j0 k bt175.2.2.1 true bt175.1 bt175.2.1)) else (standstilllaw08_awake.j0 k bt175.2.2.1 true bt175.1 bt175.2.1)) else (standstilllaw08_awake.j0 k bt175.2.2.1 true bt175.1 bt175.2.1)) else (standstilllaw08_awake.j0 k bt175.2.2.1 true bt175.1 bt175.2.1)) else (standstilllaw08_awake.j0 k bt175.2.2.1 true bt175.1 bt175.2.1))))) = some r := H
 have A2 := Aside0.mk A20
 clear A20
 replace H := Option.bind_eq_some_iff.mp H
 obtain ⟨⟨t167, t168⟩, A30, H⟩ := H
 replace H : ((standstilllaw06_Moves.f).bind fun bt171 => ((pair_Two.f k bt171.1 bt171.2).bind fun bt175 => (if t162 = 0 then (if t164 = 0 then (if t168 = 6 then (if bt175.2.2.2 = 0 then (if t161 = 24 then (if (t163.length : Int) = 2 then (if 0 < (t163.length : Int) then (if (rd t163 0) = 3 then (if 1 < (t163.length : Int) then (if (rd t163 1) = 1 then (if (bt175.2.2.1.length : Int) = 3 then ((standstillref06_Valid.f k bt175.1 bt175.2.1).bind fun t186 => (if t186 = true then (if bt175.1 = 2 then ((standstillref06_Points.f k bt175.1 bt175.2.1 bt175.2.2.1).bind fun t187 => (standstilllaw08_awake.j0 k bt175.2.2.1 (!t187) bt175.1 bt175.2.1)) else (standstilllaw08_awake.j0 k bt175.2.2.1 true bt175.1 bt175.2.1)) else (standstilllaw08_awake.j0 k bt175.2.2.1 true bt175.1 bt175.2.1))) else (standstilllaw08_awake.j0 k bt175.2.2.1 true bt175.1 bt175.2.1)) else (standstilllaw08_awake.j0 k bt175.2.2.1 true bt175.1 bt175.2.1)) else (none)) else (standstilllaw08_awake.j0 k bt175.2.2.1 true bt175.1 bt175.2.1)) else (none)) else (standstilllaw08_awake.j0 k bt175.2.2.1 true bt175.1 bt175.2.1)) else (standstilllaw08_awake.j0 k bt175.2.2.1 true bt175.1 bt175.2.1)) else (standstilllaw08_awake.j0 k bt175.2.2.1 true bt175.1 bt175.2.1)) else (standstilllaw08_awake.j0 k bt175.2.2.1 true bt175.1 bt175.2.1)) else (standstilllaw08_awake.j0 k bt175.2.2.1 true bt175.1 bt175.2.1)) else (standstilllaw08_awake.j0 k bt175.2.2.1 true bt175.1 bt175.2.1)))) = some r := H
 have A3 := Aside0.mk A30
 clear A30
 replace H := Option.bind_eq_some_iff.mp H
 obtain ⟨⟨t171, t172⟩, A40, H⟩ := H
 replace H : ((pair_Two.f k t171 t172).bind fun bt175 => (if t162 = 0 then (if t164 = 0 then (if t168 = 6 then (if bt175.2.2.2 = 0 then (if t161 = 24 then (if (t163.length : Int) = 2 then (if 0 < (t163.length : Int) then (if (rd t163 0) = 3 then (if 1 < (t163.length : Int) then (if (rd t163 1) = 1 then (if (bt175.2.2.1.length : Int) = 3 then ((standstillref06_Valid.f k bt175.1 bt175.2.1).bind fun t186 => (if t186 = true then (if bt175.1 = 2 then ((standstillref06_Points.f k bt175.1 bt175.2.1 bt175.2.2.1).bind fun t187 => (standstilllaw08_awake.j0 k bt175.2.2.1 (!t187) bt175.1 bt175.2.1)) else (standstilllaw08_awake.j0 k bt175.2.2.1 true bt175.1 bt175.2.1)) else (standstilllaw08_awake.j0 k bt175.2.2.1 true bt175.1 bt175.2.1))) else (standstilllaw08_awake.j0 k bt175.2.2.1 true bt175.1 bt175.2.1)) else (standstilllaw08_awake.j0 k bt175.2.2.1 true bt175.1 bt175.2.1)) else (none)) else (standstilllaw08_awake.j0 k bt175.2.2.1 true bt175.1 bt175.2.1)) else (none)) else (standstilllaw08_awake.j0 k bt175.2.2.1 true bt175.1 bt175.2.1)) else (standstilllaw08_awake.j0 k bt175.2.2.1 true bt175.1 bt175.2.1)) else (standstilllaw08_awake.j0 k bt175.2.2.1 true bt175.1 bt175.2.1)) else (standstilllaw08_awake.j0 k bt175.2.2.1 true bt175.1 bt175.2.1)) else (standstilllaw08_awake.j0 k bt175.2.2.1 true bt175.1 bt175.2.1)) else (standstilllaw08_awake.j0 k bt175.2.2.1 true bt175.1 bt175.2.1))) = some r := H
 have A4 := Aside0.mk A40
 clear A40
 replace H := Option.bind_eq_some_iff.mp H
 obtain ⟨⟨t175, t176, t179, t182⟩, A50, H⟩ := H
 replace H : (if t162 = 0 then (if t164 = 0 then (if t168 = 6 then (if t182 = 0 then (if t161 = 24 then (if (t163.length : Int) = 2 then (if 0 < (t163.length : Int) then (if (rd t163 0) = 3 then (if 1 < (t163.length : Int) then (if (rd t163 1) = 1 then (if (t179.length : Int) = 3 then ((standstillref06_Valid.f k t175 t176).bind fun t186 => (if t186 = true then (if t175 = 2 then ((standstillref06_Points.f k t175 t176 t179).bind fun t187 => (standstilllaw08_awake.j0 k t179 (!t187) t175 t176)) else (standstilllaw08_awake.j0 k t179 true t175 t176)) else (standstilllaw08_awake.j0 k t179 true t175 t176))) else (standstilllaw08_awake.j0 k t179 true t175 t176)) else (standstilllaw08_awake.j0 k t179 true t175 t176)) else (none)) else (standstilllaw08_awake.j0 k t179 true t175 t176)) else (none)) else (standstilllaw08_awake.j0 k t179 true t175 t176)) else (standstilllaw08_awake.j0 k t179 true t175 t176)) else (standstilllaw08_awake.j0 k t179 true t175 t176)) else (standstilllaw08_awake.j0 k t179 true t175 t176)) else (standstilllaw08_awake.j0 k t179 true t175 t176)) else (standstilllaw08_awake.j0 k t179 true t175 t176)) = some r := H
 have A5 := Aside0.mk A50
 clear A50
 have HC6 := Aside0.mk H
 clear H
 go_enter Try.func7, Try.ntmps7
 go_upto_region 5 with (first | ((with_reducible refine gate_dst (N := 14) rfl ?_); (try (refine gate_guard (by rfl) ?_; dsimp only)); refine Kd.R_lit (Kd.int .i64) _ 3 ?hg (N := 14) ?hd (xs := ([3, 1] : List Int)) (inner := [.int .i64 3, .int .i64 1]) (ok := fun _ => True) (okp := fun _ => True) ?hr ?hp (fun _ hk => hk) trivial (Below.refl _ _) (Nat.le_refl _) (by simp) ?_; (case hd => rfl); (case hg => rfl); (case hr => first | (go_simp; done) | (go_simp; rfl)); (case hp => exact (Reps.one (show Kd.M (Kd.int .i64) _ _ _ 3 [.int .i64 3] from rfl) (Reps.one (show Kd.M (Kd.int .i64) _ _ _ 1 [.int .i64 1] from rfl) (Reps.none _ _)))); intro v159 w7 ho8 hb hg_ hnew_; clear hg_ hnew_; (first | rw [← Ny158.out] at ho8 | (simp only [Int.reduceToNat] at ho8; rw [← Ny158.out] at ho8)); have n0_ := A_ (Kd.R_lower ho8 (below_size (bk_ HB.out))); have n1_ := A_ (below_step (bk_ HB.out) hb); clear HB; have HO160 := n0_; have HB := n1_; clear n0_ n1_ hb ho8; obtain ⟨Ao9, co9, eo9⟩ := Kd.R_slice HO160.out; subst eo9) | ((with_reducible refine gate_callee (f := 8) rfl ?_); refine goesL_ (some 15) rfl rfl Try.func8 (by kernel_rfl) rfl #[.slice Ao9 y158.length co9] rfl gl_ ?_; (with_reducible refine (pair_Encode.calls k _ _ y158 t161 t162 _ ?side1 ?side2 A1.out).mono ?_); (case side1 => repeat (first | exact (Kd.R_reads' HO160.out).2.2 | (with_reducible refine Kd.C_alloc ?_ _) | (with_reducible refine Kd.C_drewN ?_ _) | (with_reducible refine Kd.C_drew ?_))); (case side2 => exact (Kd.R_reads' HO160.out).2.1); rintro e w10 ⟨rfl, hb⟩; refine ⟨_, rfl, ?_⟩; have n0_ := A_ (Kd.R_below (rk_ HO160.out) hb); have n1_ := A_ (below_step (bk_ HB.out) hb); clear HO160 HB; have HO160 := n0_; have HB := n1_; clear n0_ n1_; (try clear hb); (try clear hb2); (try clear hk); (try clear hi)) | ((with_reducible refine gate_callee (f := 9) rfl ?_); refine goesL_ (some 19) rfl rfl Try.func9 (by kernel_rfl) rfl #[.int .i64 24, .int .i64 2] rfl gl_ ?_; (with_reducible refine (pair_Decode.calls k 24 2 t163 t164 _ A2.out).mono ?_); rintro e w11 ⟨v165, rfl, ho0, hb⟩; refine ⟨_, rfl, ?_⟩; have n0_ := A_ (Kd.R_elder' (rk_ HO160.out) (Kd.R_base ho0) hb); have n1_ := A_ (Kd.R_lower (Kd.R_new' ho0 (Kd.R_lt (rk_ HO160.out))) (below_size (bk_ HB.out))); have n2_ := A_ (below_step (bk_ HB.out) hb); clear HO160 HB; have HO160 := n0_; have HO166 := n1_; have HB := n2_; clear n0_ n1_ n2_; (try clear hb); (try clear hb2); (try clear hk); (try clear hi); (try clear ho0)) | ((with_reducible refine gate_callee (f := 9) rfl ?_); refine goesL_ (some 23) rfl rfl Try.func9 (by kernel_rfl) rfl #[.int .i64 10, .int .i64 2] rfl gl_ ?_; (with_reducible refine (pair_Decode.calls k 10 2 t167 t168 _ A3.out).mono ?_); rintro e w12 ⟨v169, rfl, ho0, hb⟩; refine ⟨_, rfl, ?_⟩; have n0_ := A_ (Kd.R_elder' (rk_ HO160.out) (Kd.R_base ho0) hb); have n1_ := A_ (Kd.R_elder' (rk_ HO166.out) (Kd.R_base ho0) hb); have n2_ := A_ (Kd.R_lower (Kd.R_new' (Kd.R_new' ho0 (Kd.R_lt (rk_ HO160.out))) (Kd.R_lt (rk_ HO166.out))) (below_size (bk_ HB.out))); have n3_ := A_ (below_step (bk_ HB.out) hb); clear HO160 HO166 HB; have HO160 := n0_; have HO166 := n1_; have HO170 := n2_; have HB := n3_; clear n0_ n1_ n2_ n3_; (try clear hb); (try clear hb2); (try clear hk); (try clear hi); (try clear ho0)) | ((with_reducible refine gate_callee (f := 20) rfl ?_); refine goesL_ (some 27) rfl rfl Try.func20 (by kernel_rfl) rfl #[] rfl gl_ ?_; (with_reducible refine (standstilllaw06_Moves.calls  t171 t172 _ A4.out).mono ?_); rintro e w13 ⟨v173, rfl, ho0, hb⟩; refine ⟨_, rfl, ?_⟩; have n0_ := A_ (Kd.R_below (rk_ HO160.out) hb); have n1_ := A_ (Kd.R_below (rk_ HO166.out) hb); have n2_ := A_ (Kd.R_below (rk_ HO170.out) hb); have n3_ := A_ (Kd.R_lower ho0 (below_size (bk_ HB.out))); have n4_ := A_ (below_step (bk_ HB.out) hb); clear HO160 HO166 HO170 HB; have HO160 := n0_; have HO166 := n1_; have HO170 := n2_; have HO174 := n3_; have HB := n4_; clear n0_ n1_ n2_ n3_ n4_; (try clear hb); (try clear hb2); (try clear hk); (try clear hi); (try clear ho0); obtain ⟨Ao14, co14, eo14⟩ := Kd.R_slice HO174.out; subst eo14) | ((with_reducible refine gate_callee (f := 14) rfl ?_); refine goesL_ (some 28) rfl rfl Try.func14 (by kernel_rfl) rfl #[.agg #[.int .i64 t171, .slice Ao14 t172.length co14]] rfl gl_ ?_; (with_reducible refine (pair_Two.calls k t171 _ _ t172 t175 t176 t179 t182 _ ?side1 ?side2 A5.out).mono ?_); (case side1 => repeat (first | exact (Kd.R_reads' HO174.out).2.2 | (with_reducible refine Kd.C_alloc ?_ _) | (with_reducible refine Kd.C_drewN ?_ _) | (with_reducible refine Kd.C_drew ?_))); (case side2 => exact (Kd.R_reads' HO174.out).2.1); rintro e w15 ⟨v177, v180, rfl, ho0, ho1, hb⟩; refine ⟨_, rfl, ?_⟩; have n1_ := A_ (Kd.R_elder' (rk_ HO166.out) (Kd.R_base ho1) hb); have n4_ := A_ (Kd.R_lower (Kd.R_new' ho0 (Kd.R_lt (rk_ HO174.out))) (below_size (bk_ HB.out))); have n5_ := A_ (Kd.R_lower (Kd.R_new' (Kd.R_new' (Kd.R_new' ho1 (Kd.R_lt (rk_ HO160.out))) (Kd.R_lt (rk_ HO166.out))) (Kd.R_lt (rk_ HO170.out))) (below_size (bk_ HB.out))); have n6_ := A_ (below_step (bk_ HB.out) hb); clear HO166 HB; have HO166 := n1_; have HO178 := n4_; have HO181 := n5_; have HB := n6_; clear n1_ n4_ n5_ n6_; (try clear hb); (try clear hb2); (try clear hk); (try clear hi); (try clear ho0); (try clear ho1)) | ((with_reducible refine gate_dst (N := 7) rfl ?_); (try (refine gate_guard (by rfl) ?_; dsimp only)); refine box_event ?hg (N := 7) ?hd (cs := #[.int .i64 0, .slice none 0 0]) (t := 38) ?hr ?_; (case hd => rfl); (case hg => rfl); (case hr => first | (go_simp; done) | (go_simp; rfl)); intro gb183 hg w16 hbox hb; have n1_ := A_ (Kd.R_below (rk_ HO166.out) hb); have n4_ := A_ (Kd.R_below (rk_ HO178.out) hb); have n5_ := A_ (Kd.R_below (rk_ HO181.out) hb); have n6_ := A_ (below_step (bk_ HB.out) hb); have n7_ := A_ (hbox); have n8_ := A_ (bz_ hg (bk_ HB.out)); have n9_ := A_ (bz_ hg (bk_ HB.out)); clear HO166 HO178 HO181 HB; have HO166 := n1_; have HO178 := n4_; have HO181 := n5_; have HB := n6_; have BK183 := n7_; have GW183 := n8_; have GE183 := n9_; clear n1_ n4_ n5_ n6_ n7_ n8_ n9_ hb hbox hg; obtain ⟨hcz17_0, hcz17_1⟩ := bc2_ BK183.out; have hfz17_0 := blk_frozen BK183.out 0; have hfz17_1 := blk_frozen BK183.out 1; obtain ⟨Ao18, co18, eo18⟩ := Kd.R_slice HO178.out; subst eo18))
 (try simp only [Act.put, List.setIfInBounds_toArray, List.set_cons_zero, List.set_cons_succ])
 go_cut [87] (fun v87 wc => ∃ (kq : Nat) (x87_5 : Bool), v87 = .bool x87_5 ∧ Aside0 (standstilllaw08_awake.j0 kq t179 x87_5 t175 t176 = some r) ∧ Aside0 (kq ≤ k) ∧ Aside0 (Kd.R (Kd.int .i64) 3 wc w.heap.size (fun _ => True) v180 t179) ∧ Aside0 (Kd.R k45 45 wc w.heap.size (fun _ => True) (.slice Ao18 t176.length co18) t176) ∧ Aside0 (wc.heap[gb183]? = some (.cells #[.int .i64 t175, (.slice Ao18 t176.length co18)] 38 (0, 0))) ∧ Aside0 (Below w.heap.size w wc))
 case first => as_aux_lemma =>
  have H := HC6.out
  clear HC6
  by_cases c19 : t162 = 0
  ·rw [if_pos c19] at H
   have c19b0 : (t162 == 0) = true := beq_iff_eq.mpr c19
   have c19b1 : (t162 != 0) = false := bne_eq_false_iff_eq.mpr c19
   clear c19
   (first | rw [c19b0] | (simp only [i64_w, i32_w]; rw [c19b0]) | skip)
   by_cases c20 : t164 = 0
   ·rw [if_pos c20] at H
    have c20b0 : (t164 == 0) = true := beq_iff_eq.mpr c20
    have c20b1 : (t164 != 0) = false := bne_eq_false_iff_eq.mpr c20
    clear c20
    by_cases c21 : t168 = 6
    ·rw [if_pos c21] at H
     have c21b0 : (t168 == 6) = true := beq_iff_eq.mpr c21
     have c21b1 : (t168 != 6) = false := bne_eq_false_iff_eq.mpr c21
     clear c21
     by_cases c22 : t182 = 0
     ·rw [if_pos c22] at H
      have c22b0 : (t182 == 0) = true := beq_iff_eq.mpr c22
      have c22b1 : (t182 != 0) = false := bne_eq_false_iff_eq.mpr c22
      clear c22
      by_cases c23 : t161 = 24
      ·rw [if_pos c23] at H
       have c23b0 : (t161 == 24) = true := beq_iff_eq.mpr c23
       have c23b1 : (t161 != 24) = false := bne_eq_false_iff_eq.mpr c23
       clear c23
       by_cases c24 : (t163.length : Int) = 2
       ·rw [if_pos c24] at H
        have c24b0 : ((t163.length : Int) == 2) = true := beq_iff_eq.mpr c24
        have c24b1 : ((t163.length : Int) != 2) = false := bne_eq_false_iff_eq.mpr c24
        clear c24
        by_cases c25 : 0 < (t163.length : Int)
        ·rw [if_pos c25] at H
         have c25b0 : decide (0 < (t163.length : Int)) = true := decide_eq_true c25
         have c25b1 : decide (0 < t163.length) = true := decide_eq_true (by omega)
         clear c25
         by_cases c26 : (rd t163 0) = 3
         ·rw [if_pos c26] at H
          have c26b0 : ((rd t163 0) == 3) = true := beq_iff_eq.mpr c26
          have c26b1 : ((rd t163 0) != 3) = false := bne_eq_false_iff_eq.mpr c26
          clear c26
          by_cases c27 : 1 < (t163.length : Int)
          ·rw [if_pos c27] at H
           have c27b0 : decide (1 < (t163.length : Int)) = true := decide_eq_true c27
           have c27b1 : decide (1 < t163.length) = true := decide_eq_true (by omega)
           clear c27
           by_cases c28 : (rd t163 1) = 1
           ·rw [if_pos c28] at H
            have c28b0 : ((rd t163 1) == 1) = true := beq_iff_eq.mpr c28
            have c28b1 : ((rd t163 1) != 1) = false := bne_eq_false_iff_eq.mpr c28
            clear c28
            by_cases c29 : (t179.length : Int) = 3
            ·rw [if_pos c29] at H
             have c29b0 : ((t179.length : Int) == 3) = true := beq_iff_eq.mpr c29
             have c29b1 : ((t179.length : Int) != 3) = false := bne_eq_false_iff_eq.mpr c29
             clear c29
             replace H := Option.bind_eq_some_iff.mp H
             obtain ⟨t186, A300, H⟩ := H
             replace H : (if t186 = true then (if t175 = 2 then ((standstillref06_Points.f k t175 t176 t179).bind fun t187 => (standstilllaw08_awake.j0 k t179 (!t187) t175 t176)) else (standstilllaw08_awake.j0 k t179 true t175 t176)) else (standstilllaw08_awake.j0 k t179 true t175 t176)) = some r := H
             have A30 := Aside0.mk A300
             clear A300
             by_cases c31 : t186 = true
             ·subst c31
              have H1 : (if t175 = 2 then ((standstillref06_Points.f k t175 t176 t179).bind fun t187 => (standstilllaw08_awake.j0 k t179 (!t187) t175 t176)) else (standstilllaw08_awake.j0 k t179 true t175 t176)) = some r := by rw [if_pos rfl] at H; exact H
              clear H
              have H := H1
              clear H1
              by_cases c32 : t175 = 2
              ·rw [if_pos c32] at H
               have c32b0 : (t175 == 2) = true := beq_iff_eq.mpr c32
               have c32b1 : (t175 != 2) = false := bne_eq_false_iff_eq.mpr c32
               clear c32
               replace H := Option.bind_eq_some_iff.mp H
               obtain ⟨t187, A330, H⟩ := H
               replace H : (standstilllaw08_awake.j0 k t179 (!t187) t175 t176) = some r := H
               have A33 := Aside0.mk A330
               clear A330
               have H' := Aside0.mk H
               clear H
               obtain ⟨Ao34, co34, eo34⟩ := Kd.R_slice HO166.out
               subst eo34
               have p184 : 0 ≤ (0 : Int) := (by omega)
               have q184 : 0 < (t163.length : Int) := od_
               obtain ⟨ad184, e184, hx184_0⟩ := Kd.at_int (Kd.R_reads' HO166.out).2.2 0 p184 q184
               cases e184
               have qi184 : (0 < t163.length) = True := eq_true (by omega)
               (try rw [show ((0 : Int)).toNat = 0 from rfl] at hx184_0)
               (try rw [Addr.add_zero'] at hx184_0)
               have hn184_0 : ad184.block ≠ gb183 := Kd.own_blk (Kd.R_ne HO166.out BK183.out (by decide))
               have hn184_1 : ad184.block ≠ gb183 := Kd.own_blk (Kd.R_ne HO166.out BK183.out (by decide))
               replace hx184_0 := (cell_far (p := ⟨gb183, 0, none⟩) (by first | (rw [add_block]; exact hn184_0) | (show (Addr.add _ _).block ≠ _; rw [add_block]; exact hn184_0) | exact hn184_0) (.int .i64 t175)).trans hx184_0
               replace hx184_0 := (cell_far (p := ⟨gb183, 1, none⟩) (by first | (rw [add_block]; exact hn184_1) | (show (Addr.add _ _).block ≠ _; rw [add_block]; exact hn184_1) | exact hn184_1) (.slice Ao18 t176.length co18)).trans hx184_0
               clear hn184_0 hn184_1
               replace p184 := eq_true p184
               replace q184 := eq_true q184
               have p185 : 0 ≤ (1 : Int) := (by omega)
               have q185 : 1 < (t163.length : Int) := od_
               obtain ⟨ad185, e185, hx185_0⟩ := Kd.at_int (Kd.R_reads' HO166.out).2.2 1 p185 q185
               obtain rfl : ad184 = ad185 := (by injection e185)
               (try simp only [show (1 : Int).toNat = 1 from rfl, Nat.reduceMul, Nat.reduceEqDiff, Go.Addr.add, ↓reduceIte] at hx185_0)
               have qi185 : (1 < t163.length) = True := eq_true (by omega)
               (try rw [show ((1 : Int)).toNat = 1 from rfl] at hx185_0)
               have hn185_0 : ad184.block ≠ gb183 := Kd.own_blk (Kd.R_ne HO166.out BK183.out (by decide))
               have hn185_1 : ad184.block ≠ gb183 := Kd.own_blk (Kd.R_ne HO166.out BK183.out (by decide))
               replace hx185_0 := (cell_far (p := ⟨gb183, 0, none⟩) (by first | (rw [add_block]; exact hn185_0) | (show (Addr.add _ _).block ≠ _; rw [add_block]; exact hn185_0) | exact hn185_0) (.int .i64 t175)).trans hx185_0
               replace hx185_0 := (cell_far (p := ⟨gb183, 1, none⟩) (by first | (rw [add_block]; exact hn185_1) | (show (Addr.add _ _).block ≠ _; rw [add_block]; exact hn185_1) | exact hn185_1) (.slice Ao18 t176.length co18)).trans hx185_0
               clear hn185_0 hn185_1
               replace p185 := eq_true p185
               replace q185 := eq_true q185
               obtain ⟨Ao35, co35, eo35⟩ := Kd.R_slice HO181.out
               subst eo35
               obtain ⟨hcz36_0, hcz36_1⟩ := bc2_ BK183.out
               have hfz36_0 := blk_frozen BK183.out 0
               have hfz36_1 := blk_frozen BK183.out 1
               go_wp2_with (first | (go_at_call 15; (with_reducible refine (standstillref06_Valid.calls k t175 _ _ t176 true _ ?side1 ?side2 A30.out).mono ?_); (case side1 => refine (Kd.R_reads' (e := 45) (base := w.heap.size) (ok := fun k_ => (True ∧ some k_ ≠ (.slice Ao14 t172.length co14 : Value).ownBlock)) (n := t176.length) (c := co18) ?_).2.2; exact (rz_ HO178.out BK183.out)); (case side2 => exact (Kd.R_reads' HO178.out).2.1); rintro e w37 ⟨rfl, hb⟩; have n1_ := A_ (Kd.R_below (rz_ HO166.out BK183.out) hb); have n4_ := A_ (Kd.R_below (rz_ HO178.out BK183.out) hb); have n5_ := A_ (Kd.R_below (rz_ HO181.out BK183.out) hb); have n6_ := A_ (blk_below (g := gb183) (o := .cells #[.int .i64 t175, .slice Ao18 t176.length co18] 38 (0, 0)) (by refine pk_ ?_; refine blk_put (cs := #[.int .i64 t175, .slice none 0 0]) ?_ 1 _ rfl; refine pk_ ?_; refine blk_put (cs := #[.int .i64 0, .slice none 0 0]) ?_ 0 _ rfl; exact pk_ BK183.out) hb); have n7_ := A_ (below_step (bk_ HB.out) hb); clear HO166 HO178 HO181 BK183 HB; have HO166 := n1_; have HO178 := n4_; have HO181 := n5_; have BK183 := n6_; have HB := n7_; clear n1_ n4_ n5_ n6_ n7_; (try clear hb); (try clear hb2); (try clear hk); (try clear hi); obtain ⟨hcz38_0, hcz38_1⟩ := bc2_ BK183.out; have hfz38_0 := blk_frozen BK183.out 0; have hfz38_1 := blk_frozen BK183.out 1) | (go_at_call 17; (with_reducible refine (standstillref06_Points.calls k t175 _ _ t176 _ _ t179 t187 _ ?side1 ?side2 ?side3 ?side4 A33.out).mono ?_); (case side1 => repeat (first | exact (Kd.R_reads' HO178.out).2.2 | (with_reducible refine Kd.C_alloc ?_ _) | (with_reducible refine Kd.C_drewN ?_ _) | (with_reducible refine Kd.C_drew ?_))); (case side2 => exact (Kd.R_reads' HO178.out).2.1); (case side3 => repeat (first | exact (Kd.R_reads' HO181.out).2.2 | (with_reducible refine Kd.C_alloc ?_ _) | (with_reducible refine Kd.C_drewN ?_ _) | (with_reducible refine Kd.C_drew ?_))); (case side4 => exact (Kd.R_reads' HO181.out).2.1); rintro e w39 ⟨rfl, hb⟩; have n1_ := A_ (Kd.R_below (rk_ HO166.out) hb); have n4_ := A_ (Kd.R_below (rk_ HO178.out) hb); have n5_ := A_ (Kd.R_below (rk_ HO181.out) hb); have n6_ := A_ (blk_below (pk_ BK183.out) hb); have n7_ := A_ (below_step (bk_ HB.out) hb); clear HO166 HO178 HO181 BK183 HB; have HO166 := n1_; have HO178 := n4_; have HO181 := n5_; have BK183 := n6_; have HB := n7_; clear n1_ n4_ n5_ n6_ n7_; (try clear hb); (try clear hb2); (try clear hk); (try clear hi)))
               go_meet
               case rel => exact ⟨_, (!t187), jr_, H', ⟨by first | omega | exact Nat.le_refl _⟩, ⟨by (with_reducible repeat (first | apply Kd.R_alloc | apply Kd.R_drewN | apply Kd.R_drew)); exact Kd.R_mono HO181.out (fun _ hk => trivial)⟩, ⟨by (with_reducible repeat (first | apply Kd.R_alloc | apply Kd.R_drewN | apply Kd.R_drew)); exact Kd.R_mono HO178.out (fun _ hk => trivial)⟩, ⟨pk_ BK183.out⟩, ⟨bk_ HB.out⟩⟩
              ·rw [if_neg c32] at H
               have c32b0 : (t175 == 2) = false := beq_eq_false_iff_ne.mpr c32
               have c32b1 : (t175 != 2) = true := bne_iff_ne.mpr c32
               have H' := Aside0.mk H
               clear H
               obtain ⟨Ao40, co40, eo40⟩ := Kd.R_slice HO166.out
               subst eo40
               have p184 : 0 ≤ (0 : Int) := (by omega)
               have q184 : 0 < (t163.length : Int) := od_
               obtain ⟨ad184, e184, hx184_0⟩ := Kd.at_int (Kd.R_reads' HO166.out).2.2 0 p184 q184
               cases e184
               have qi184 : (0 < t163.length) = True := eq_true (by omega)
               (try rw [show ((0 : Int)).toNat = 0 from rfl] at hx184_0)
               (try rw [Addr.add_zero'] at hx184_0)
               have hn184_0 : ad184.block ≠ gb183 := Kd.own_blk (Kd.R_ne HO166.out BK183.out (by decide))
               have hn184_1 : ad184.block ≠ gb183 := Kd.own_blk (Kd.R_ne HO166.out BK183.out (by decide))
               replace hx184_0 := (cell_far (p := ⟨gb183, 0, none⟩) (by first | (rw [add_block]; exact hn184_0) | (show (Addr.add _ _).block ≠ _; rw [add_block]; exact hn184_0) | exact hn184_0) (.int .i64 t175)).trans hx184_0
               replace hx184_0 := (cell_far (p := ⟨gb183, 1, none⟩) (by first | (rw [add_block]; exact hn184_1) | (show (Addr.add _ _).block ≠ _; rw [add_block]; exact hn184_1) | exact hn184_1) (.slice Ao18 t176.length co18)).trans hx184_0
               clear hn184_0 hn184_1
               replace p184 := eq_true p184
               replace q184 := eq_true q184
               have p185 : 0 ≤ (1 : Int) := (by omega)
               have q185 : 1 < (t163.length : Int) := od_
               obtain ⟨ad185, e185, hx185_0⟩ := Kd.at_int (Kd.R_reads' HO166.out).2.2 1 p185 q185
               obtain rfl : ad184 = ad185 := (by injection e185)
               (try simp only [show (1 : Int).toNat = 1 from rfl, Nat.reduceMul, Nat.reduceEqDiff, Go.Addr.add, ↓reduceIte] at hx185_0)
               have qi185 : (1 < t163.length) = True := eq_true (by omega)
               (try rw [show ((1 : Int)).toNat = 1 from rfl] at hx185_0)
               have hn185_0 : ad184.block ≠ gb183 := Kd.own_blk (Kd.R_ne HO166.out BK183.out (by decide))
               have hn185_1 : ad184.block ≠ gb183 := Kd.own_blk (Kd.R_ne HO166.out BK183.out (by decide))
               replace hx185_0 := (cell_far (p := ⟨gb183, 0, none⟩) (by first | (rw [add_block]; exact hn185_0) | (show (Addr.add _ _).block ≠ _; rw [add_block]; exact hn185_0) | exact hn185_0) (.int .i64 t175)).trans hx185_0
               replace hx185_0 := (cell_far (p := ⟨gb183, 1, none⟩) (by first | (rw [add_block]; exact hn185_1) | (show (Addr.add _ _).block ≠ _; rw [add_block]; exact hn185_1) | exact hn185_1) (.slice Ao18 t176.length co18)).trans hx185_0
               clear hn185_0 hn185_1
               replace p185 := eq_true p185
               replace q185 := eq_true q185
               obtain ⟨Ao41, co41, eo41⟩ := Kd.R_slice HO181.out
               subst eo41
               obtain ⟨hcz42_0, hcz42_1⟩ := bc2_ BK183.out
               have hfz42_0 := blk_frozen BK183.out 0
               have hfz42_1 := blk_frozen BK183.out 1
               go_wp2_with (first | (go_at_call 15; (with_reducible refine (standstillref06_Valid.calls k t175 _ _ t176 true _ ?side1 ?side2 A30.out).mono ?_); (case side1 => refine (Kd.R_reads' (e := 45) (base := w.heap.size) (ok := fun k_ => (True ∧ some k_ ≠ (.slice Ao14 t172.length co14 : Value).ownBlock)) (n := t176.length) (c := co18) ?_).2.2; exact (rz_ HO178.out BK183.out)); (case side2 => exact (Kd.R_reads' HO178.out).2.1); rintro e w43 ⟨rfl, hb⟩; have n1_ := A_ (Kd.R_below (rz_ HO166.out BK183.out) hb); have n4_ := A_ (Kd.R_below (rz_ HO178.out BK183.out) hb); have n5_ := A_ (Kd.R_below (rz_ HO181.out BK183.out) hb); have n6_ := A_ (blk_below (g := gb183) (o := .cells #[.int .i64 t175, .slice Ao18 t176.length co18] 38 (0, 0)) (by refine pk_ ?_; refine blk_put (cs := #[.int .i64 t175, .slice none 0 0]) ?_ 1 _ rfl; refine pk_ ?_; refine blk_put (cs := #[.int .i64 0, .slice none 0 0]) ?_ 0 _ rfl; exact pk_ BK183.out) hb); have n7_ := A_ (below_step (bk_ HB.out) hb); clear HO166 HO178 HO181 BK183 HB; have HO166 := n1_; have HO178 := n4_; have HO181 := n5_; have BK183 := n6_; have HB := n7_; clear n1_ n4_ n5_ n6_ n7_; (try clear hb); (try clear hb2); (try clear hk); (try clear hi); obtain ⟨hcz44_0, hcz44_1⟩ := bc2_ BK183.out; have hfz44_0 := blk_frozen BK183.out 0; have hfz44_1 := blk_frozen BK183.out 1))
               go_meet
               case rel => exact ⟨_, (true), jr_, H', ⟨by first | omega | exact Nat.le_refl _⟩, ⟨by (with_reducible repeat (first | apply Kd.R_alloc | apply Kd.R_drewN | apply Kd.R_drew)); exact Kd.R_mono HO181.out (fun _ hk => trivial)⟩, ⟨by (with_reducible repeat (first | apply Kd.R_alloc | apply Kd.R_drewN | apply Kd.R_drew)); exact Kd.R_mono HO178.out (fun _ hk => trivial)⟩, ⟨pk_ BK183.out⟩, ⟨bk_ HB.out⟩⟩
             ·replace c31 := Bool.eq_false_iff.mpr c31
              subst c31
              have H1 : (standstilllaw08_awake.j0 k t179 true t175 t176) = some r := by rw [if_neg (show ¬ (false = true) by decide)] at H; exact H
              clear H
              have H := H1
              clear H1
              have H' := Aside0.mk H
              clear H
              obtain ⟨Ao45, co45, eo45⟩ := Kd.R_slice HO166.out
              subst eo45
              have p184 : 0 ≤ (0 : Int) := (by omega)
              have q184 : 0 < (t163.length : Int) := od_
              obtain ⟨ad184, e184, hx184_0⟩ := Kd.at_int (Kd.R_reads' HO166.out).2.2 0 p184 q184
              cases e184
              have qi184 : (0 < t163.length) = True := eq_true (by omega)
              (try rw [show ((0 : Int)).toNat = 0 from rfl] at hx184_0)
              (try rw [Addr.add_zero'] at hx184_0)
              have hn184_0 : ad184.block ≠ gb183 := Kd.own_blk (Kd.R_ne HO166.out BK183.out (by decide))
              have hn184_1 : ad184.block ≠ gb183 := Kd.own_blk (Kd.R_ne HO166.out BK183.out (by decide))
              replace hx184_0 := (cell_far (p := ⟨gb183, 0, none⟩) (by first | (rw [add_block]; exact hn184_0) | (show (Addr.add _ _).block ≠ _; rw [add_block]; exact hn184_0) | exact hn184_0) (.int .i64 t175)).trans hx184_0
              replace hx184_0 := (cell_far (p := ⟨gb183, 1, none⟩) (by first | (rw [add_block]; exact hn184_1) | (show (Addr.add _ _).block ≠ _; rw [add_block]; exact hn184_1) | exact hn184_1) (.slice Ao18 t176.length co18)).trans hx184_0
              clear hn184_0 hn184_1
              replace p184 := eq_true p184
              replace q184 := eq_true q184
              have p185 : 0 ≤ (1 : Int) := (by omega)
              have q185 : 1 < (t163.length : Int) := od_
              obtain ⟨ad185, e185, hx185_0⟩ := Kd.at_int (Kd.R_reads' HO166.out).2.2 1 p185 q185
              obtain rfl : ad184 = ad185 := (by injection e185)
              (try simp only [show (1 : Int).toNat = 1 from rfl, Nat.reduceMul, Nat.reduceEqDiff, Go.Addr.add, ↓reduceIte] at hx185_0)
              have qi185 : (1 < t163.length) = True := eq_true (by omega)
              (try rw [show ((1 : Int)).toNat = 1 from rfl] at hx185_0)
              have hn185_0 : ad184.block ≠ gb183 := Kd.own_blk (Kd.R_ne HO166.out BK183.out (by decide))
              have hn185_1 : ad184.block ≠ gb183 := Kd.own_blk (Kd.R_ne HO166.out BK183.out (by decide))
              replace hx185_0 := (cell_far (p := ⟨gb183, 0, none⟩) (by first | (rw [add_block]; exact hn185_0) | (show (Addr.add _ _).block ≠ _; rw [add_block]; exact hn185_0) | exact hn185_0) (.int .i64 t175)).trans hx185_0
              replace hx185_0 := (cell_far (p := ⟨gb183, 1, none⟩) (by first | (rw [add_block]; exact hn185_1) | (show (Addr.add _ _).block ≠ _; rw [add_block]; exact hn185_1) | exact hn185_1) (.slice Ao18 t176.length co18)).trans hx185_0
              clear hn185_0 hn185_1
              replace p185 := eq_true p185
              replace q185 := eq_true q185
              obtain ⟨Ao46, co46, eo46⟩ := Kd.R_slice HO181.out
              subst eo46
              obtain ⟨hcz47_0, hcz47_1⟩ := bc2_ BK183.out
              have hfz47_0 := blk_frozen BK183.out 0
              have hfz47_1 := blk_frozen BK183.out 1
              go_wp2_with (first | (go_at_call 15; (with_reducible refine (standstillref06_Valid.calls k t175 _ _ t176 false _ ?side1 ?side2 A30.out).mono ?_); (case side1 => refine (Kd.R_reads' (e := 45) (base := w.heap.size) (ok := fun k_ => (True ∧ some k_ ≠ (.slice Ao14 t172.length co14 : Value).ownBlock)) (n := t176.length) (c := co18) ?_).2.2; exact (rz_ HO178.out BK183.out)); (case side2 => exact (Kd.R_reads' HO178.out).2.1); rintro e w48 ⟨rfl, hb⟩; have n1_ := A_ (Kd.R_below (rz_ HO166.out BK183.out) hb); have n4_ := A_ (Kd.R_below (rz_ HO178.out BK183.out) hb); have n5_ := A_ (Kd.R_below (rz_ HO181.out BK183.out) hb); have n6_ := A_ (blk_below (g := gb183) (o := .cells #[.int .i64 t175, .slice Ao18 t176.length co18] 38 (0, 0)) (by refine pk_ ?_; refine blk_put (cs := #[.int .i64 t175, .slice none 0 0]) ?_ 1 _ rfl; refine pk_ ?_; refine blk_put (cs := #[.int .i64 0, .slice none 0 0]) ?_ 0 _ rfl; exact pk_ BK183.out) hb); have n7_ := A_ (below_step (bk_ HB.out) hb); clear HO166 HO178 HO181 BK183 HB; have HO166 := n1_; have HO178 := n4_; have HO181 := n5_; have BK183 := n6_; have HB := n7_; clear n1_ n4_ n5_ n6_ n7_; (try clear hb); (try clear hb2); (try clear hk); (try clear hi)))
              go_meet
              case rel => exact ⟨_, (true), jr_, H', ⟨by first | omega | exact Nat.le_refl _⟩, ⟨by (with_reducible repeat (first | apply Kd.R_alloc | apply Kd.R_drewN | apply Kd.R_drew)); exact Kd.R_mono HO181.out (fun _ hk => trivial)⟩, ⟨by (with_reducible repeat (first | apply Kd.R_alloc | apply Kd.R_drewN | apply Kd.R_drew)); exact Kd.R_mono HO178.out (fun _ hk => trivial)⟩, ⟨pk_ BK183.out⟩, ⟨bk_ HB.out⟩⟩
            ·rw [if_neg c29] at H
             have c29b0 : ((t179.length : Int) == 3) = false := beq_eq_false_iff_ne.mpr c29
             have c29b1 : ((t179.length : Int) != 3) = true := bne_iff_ne.mpr c29
             have H' := Aside0.mk H
             clear H
             obtain ⟨Ao49, co49, eo49⟩ := Kd.R_slice HO166.out
             subst eo49
             have p184 : 0 ≤ (0 : Int) := (by omega)
             have q184 : 0 < (t163.length : Int) := od_
             obtain ⟨ad184, e184, hx184_0⟩ := Kd.at_int (Kd.R_reads' HO166.out).2.2 0 p184 q184
             cases e184
             have qi184 : (0 < t163.length) = True := eq_true (by omega)
             (try rw [show ((0 : Int)).toNat = 0 from rfl] at hx184_0)
             (try rw [Addr.add_zero'] at hx184_0)
             have hn184_0 : ad184.block ≠ gb183 := Kd.own_blk (Kd.R_ne HO166.out BK183.out (by decide))
             have hn184_1 : ad184.block ≠ gb183 := Kd.own_blk (Kd.R_ne HO166.out BK183.out (by decide))
             replace hx184_0 := (cell_far (p := ⟨gb183, 0, none⟩) (by first | (rw [add_block]; exact hn184_0) | (show (Addr.add _ _).block ≠ _; rw [add_block]; exact hn184_0) | exact hn184_0) (.int .i64 t175)).trans hx184_0
             replace hx184_0 := (cell_far (p := ⟨gb183, 1, none⟩) (by first | (rw [add_block]; exact hn184_1) | (show (Addr.add _ _).block ≠ _; rw [add_block]; exact hn184_1) | exact hn184_1) (.slice Ao18 t176.length co18)).trans hx184_0
             clear hn184_0 hn184_1
             replace p184 := eq_true p184
             replace q184 := eq_true q184
             have p185 : 0 ≤ (1 : Int) := (by omega)
             have q185 : 1 < (t163.length : Int) := od_
             obtain ⟨ad185, e185, hx185_0⟩ := Kd.at_int (Kd.R_reads' HO166.out).2.2 1 p185 q185
             obtain rfl : ad184 = ad185 := (by injection e185)
             (try simp only [show (1 : Int).toNat = 1 from rfl, Nat.reduceMul, Nat.reduceEqDiff, Go.Addr.add, ↓reduceIte] at hx185_0)
             have qi185 : (1 < t163.length) = True := eq_true (by omega)
             (try rw [show ((1 : Int)).toNat = 1 from rfl] at hx185_0)
             have hn185_0 : ad184.block ≠ gb183 := Kd.own_blk (Kd.R_ne HO166.out BK183.out (by decide))
             have hn185_1 : ad184.block ≠ gb183 := Kd.own_blk (Kd.R_ne HO166.out BK183.out (by decide))
             replace hx185_0 := (cell_far (p := ⟨gb183, 0, none⟩) (by first | (rw [add_block]; exact hn185_0) | (show (Addr.add _ _).block ≠ _; rw [add_block]; exact hn185_0) | exact hn185_0) (.int .i64 t175)).trans hx185_0
             replace hx185_0 := (cell_far (p := ⟨gb183, 1, none⟩) (by first | (rw [add_block]; exact hn185_1) | (show (Addr.add _ _).block ≠ _; rw [add_block]; exact hn185_1) | exact hn185_1) (.slice Ao18 t176.length co18)).trans hx185_0
             clear hn185_0 hn185_1
             replace p185 := eq_true p185
             replace q185 := eq_true q185
             obtain ⟨Ao50, co50, eo50⟩ := Kd.R_slice HO181.out
             subst eo50
             go_wp2
             go_meet
             case rel => exact ⟨_, (true), jr_, H', ⟨by first | omega | exact Nat.le_refl _⟩, ⟨by (with_reducible repeat (first | apply Kd.R_alloc | apply Kd.R_drewN | apply Kd.R_drew)); exact Kd.R_mono (rf2_ (Kd.R_types HO181.out BK183.out (by decide))) (fun _ hk => trivial)⟩, ⟨by (with_reducible repeat (first | apply Kd.R_alloc | apply Kd.R_drewN | apply Kd.R_drew)); exact Kd.R_mono (rf2_ (Kd.R_types HO178.out BK183.out (by decide))) (fun _ hk => trivial)⟩, ⟨by refine pk_ ?_; refine blk_put (cs := #[.int .i64 t175, .slice none 0 0]) ?_ 1 _ rfl; refine pk_ ?_; refine blk_put (cs := #[.int .i64 0, .slice none 0 0]) ?_ 0 _ rfl; exact pk_ BK183.out⟩, ⟨bk_ HB.out⟩⟩
           ·rw [if_neg c28] at H
            have c28b0 : ((rd t163 1) == 1) = false := beq_eq_false_iff_ne.mpr c28
            have c28b1 : ((rd t163 1) != 1) = true := bne_iff_ne.mpr c28
            have H' := Aside0.mk H
            clear H
            obtain ⟨Ao51, co51, eo51⟩ := Kd.R_slice HO166.out
            subst eo51
            have p184 : 0 ≤ (0 : Int) := (by omega)
            have q184 : 0 < (t163.length : Int) := od_
            obtain ⟨ad184, e184, hx184_0⟩ := Kd.at_int (Kd.R_reads' HO166.out).2.2 0 p184 q184
            cases e184
            have qi184 : (0 < t163.length) = True := eq_true (by omega)
            (try rw [show ((0 : Int)).toNat = 0 from rfl] at hx184_0)
            (try rw [Addr.add_zero'] at hx184_0)
            have hn184_0 : ad184.block ≠ gb183 := Kd.own_blk (Kd.R_ne HO166.out BK183.out (by decide))
            have hn184_1 : ad184.block ≠ gb183 := Kd.own_blk (Kd.R_ne HO166.out BK183.out (by decide))
            replace hx184_0 := (cell_far (p := ⟨gb183, 0, none⟩) (by first | (rw [add_block]; exact hn184_0) | (show (Addr.add _ _).block ≠ _; rw [add_block]; exact hn184_0) | exact hn184_0) (.int .i64 t175)).trans hx184_0
            replace hx184_0 := (cell_far (p := ⟨gb183, 1, none⟩) (by first | (rw [add_block]; exact hn184_1) | (show (Addr.add _ _).block ≠ _; rw [add_block]; exact hn184_1) | exact hn184_1) (.slice Ao18 t176.length co18)).trans hx184_0
            clear hn184_0 hn184_1
            replace p184 := eq_true p184
            replace q184 := eq_true q184
            have p185 : 0 ≤ (1 : Int) := (by omega)
            have q185 : 1 < (t163.length : Int) := od_
            obtain ⟨ad185, e185, hx185_0⟩ := Kd.at_int (Kd.R_reads' HO166.out).2.2 1 p185 q185
            obtain rfl : ad184 = ad185 := (by injection e185)
            (try simp only [show (1 : Int).toNat = 1 from rfl, Nat.reduceMul, Nat.reduceEqDiff, Go.Addr.add, ↓reduceIte] at hx185_0)
            have qi185 : (1 < t163.length) = True := eq_true (by omega)
            (try rw [show ((1 : Int)).toNat = 1 from rfl] at hx185_0)
            have hn185_0 : ad184.block ≠ gb183 := Kd.own_blk (Kd.R_ne HO166.out BK183.out (by decide))
            have hn185_1 : ad184.block ≠ gb183 := Kd.own_blk (Kd.R_ne HO166.out BK183.out (by decide))
            replace hx185_0 := (cell_far (p := ⟨gb183, 0, none⟩) (by first | (rw [add_block]; exact hn185_0) | (show (Addr.add _ _).block ≠ _; rw [add_block]; exact hn185_0) | exact hn185_0) (.int .i64 t175)).trans hx185_0
            replace hx185_0 := (cell_far (p := ⟨gb183, 1, none⟩) (by first | (rw [add_block]; exact hn185_1) | (show (Addr.add _ _).block ≠ _; rw [add_block]; exact hn185_1) | exact hn185_1) (.slice Ao18 t176.length co18)).trans hx185_0
            clear hn185_0 hn185_1
            replace p185 := eq_true p185
            replace q185 := eq_true q185
            go_wp2
            go_meet
            case rel => exact ⟨_, (true), jr_, H', ⟨by first | omega | exact Nat.le_refl _⟩, ⟨by (with_reducible repeat (first | apply Kd.R_alloc | apply Kd.R_drewN | apply Kd.R_drew)); exact Kd.R_mono (rf2_ (Kd.R_types HO181.out BK183.out (by decide))) (fun _ hk => trivial)⟩, ⟨by (with_reducible repeat (first | apply Kd.R_alloc | apply Kd.R_drewN | apply Kd.R_drew)); exact Kd.R_mono (rf2_ (Kd.R_types HO178.out BK183.out (by decide))) (fun _ hk => trivial)⟩, ⟨by refine pk_ ?_; refine blk_put (cs := #[.int .i64 t175, .slice none 0 0]) ?_ 1 _ rfl; refine pk_ ?_; refine blk_put (cs := #[.int .i64 0, .slice none 0 0]) ?_ 0 _ rfl; exact pk_ BK183.out⟩, ⟨bk_ HB.out⟩⟩
          ·rw [if_neg c27] at H
           exact absurd H (by simp)
         ·rw [if_neg c26] at H
          have c26b0 : ((rd t163 0) == 3) = false := beq_eq_false_iff_ne.mpr c26
          have c26b1 : ((rd t163 0) != 3) = true := bne_iff_ne.mpr c26
          have H' := Aside0.mk H
          clear H
          obtain ⟨Ao52, co52, eo52⟩ := Kd.R_slice HO166.out
          subst eo52
          have p184 : 0 ≤ (0 : Int) := (by omega)
          have q184 : 0 < (t163.length : Int) := od_
          obtain ⟨ad184, e184, hx184_0⟩ := Kd.at_int (Kd.R_reads' HO166.out).2.2 0 p184 q184
          cases e184
          have qi184 : (0 < t163.length) = True := eq_true (by omega)
          (try rw [show ((0 : Int)).toNat = 0 from rfl] at hx184_0)
          (try rw [Addr.add_zero'] at hx184_0)
          have hn184_0 : ad184.block ≠ gb183 := Kd.own_blk (Kd.R_ne HO166.out BK183.out (by decide))
          have hn184_1 : ad184.block ≠ gb183 := Kd.own_blk (Kd.R_ne HO166.out BK183.out (by decide))
          replace hx184_0 := (cell_far (p := ⟨gb183, 0, none⟩) (by first | (rw [add_block]; exact hn184_0) | (show (Addr.add _ _).block ≠ _; rw [add_block]; exact hn184_0) | exact hn184_0) (.int .i64 t175)).trans hx184_0
          replace hx184_0 := (cell_far (p := ⟨gb183, 1, none⟩) (by first | (rw [add_block]; exact hn184_1) | (show (Addr.add _ _).block ≠ _; rw [add_block]; exact hn184_1) | exact hn184_1) (.slice Ao18 t176.length co18)).trans hx184_0
          clear hn184_0 hn184_1
          replace p184 := eq_true p184
          replace q184 := eq_true q184
          go_wp2
          go_meet
          case rel => exact ⟨_, (true), jr_, H', ⟨by first | omega | exact Nat.le_refl _⟩, ⟨by (with_reducible repeat (first | apply Kd.R_alloc | apply Kd.R_drewN | apply Kd.R_drew)); exact Kd.R_mono (rf2_ (Kd.R_types HO181.out BK183.out (by decide))) (fun _ hk => trivial)⟩, ⟨by (with_reducible repeat (first | apply Kd.R_alloc | apply Kd.R_drewN | apply Kd.R_drew)); exact Kd.R_mono (rf2_ (Kd.R_types HO178.out BK183.out (by decide))) (fun _ hk => trivial)⟩, ⟨by refine pk_ ?_; refine blk_put (cs := #[.int .i64 t175, .slice none 0 0]) ?_ 1 _ rfl; refine pk_ ?_; refine blk_put (cs := #[.int .i64 0, .slice none 0 0]) ?_ 0 _ rfl; exact pk_ BK183.out⟩, ⟨bk_ HB.out⟩⟩
        ·rw [if_neg c25] at H
         exact absurd H (by simp)
       ·rw [if_neg c24] at H
        have c24b0 : ((t163.length : Int) == 2) = false := beq_eq_false_iff_ne.mpr c24
        have c24b1 : ((t163.length : Int) != 2) = true := bne_iff_ne.mpr c24
        have H' := Aside0.mk H
        clear H
        obtain ⟨Ao53, co53, eo53⟩ := Kd.R_slice HO166.out
        subst eo53
        go_wp2
        go_meet
        case rel => exact ⟨_, (true), jr_, H', ⟨by first | omega | exact Nat.le_refl _⟩, ⟨by (with_reducible repeat (first | apply Kd.R_alloc | apply Kd.R_drewN | apply Kd.R_drew)); exact Kd.R_mono (rf2_ (Kd.R_types HO181.out BK183.out (by decide))) (fun _ hk => trivial)⟩, ⟨by (with_reducible repeat (first | apply Kd.R_alloc | apply Kd.R_drewN | apply Kd.R_drew)); exact Kd.R_mono (rf2_ (Kd.R_types HO178.out BK183.out (by decide))) (fun _ hk => trivial)⟩, ⟨by refine pk_ ?_; refine blk_put (cs := #[.int .i64 t175, .slice none 0 0]) ?_ 1 _ rfl; refine pk_ ?_; refine blk_put (cs := #[.int .i64 0, .slice none 0 0]) ?_ 0 _ rfl; exact pk_ BK183.out⟩, ⟨bk_ HB.out⟩⟩
      ·rw [if_neg c23] at H
       have c23b0 : (t161 == 24) = false := beq_eq_false_iff_ne.mpr c23
       have c23b1 : (t161 != 24) = true := bne_iff_ne.mpr c23
       have H' := Aside0.mk H
       clear H
       go_wp2
       go_meet
       case rel => exact ⟨_, (true), jr_, H', ⟨by first | omega | exact Nat.le_refl _⟩, ⟨by (with_reducible repeat (first | apply Kd.R_alloc | apply Kd.R_drewN | apply Kd.R_drew)); exact Kd.R_mono (rf2_ (Kd.R_types HO181.out BK183.out (by decide))) (fun _ hk => trivial)⟩, ⟨by (with_reducible repeat (first | apply Kd.R_alloc | apply Kd.R_drewN | apply Kd.R_drew)); exact Kd.R_mono (rf2_ (Kd.R_types HO178.out BK183.out (by decide))) (fun _ hk => trivial)⟩, ⟨by refine pk_ ?_; refine blk_put (cs := #[.int .i64 t175, .slice none 0 0]) ?_ 1 _ rfl; refine pk_ ?_; refine blk_put (cs := #[.int .i64 0, .slice none 0 0]) ?_ 0 _ rfl; exact pk_ BK183.out⟩, ⟨bk_ HB.out⟩⟩
     ·rw [if_neg c22] at H
      have c22b0 : (t182 == 0) = false := beq_eq_false_iff_ne.mpr c22
      have c22b1 : (t182 != 0) = true := bne_iff_ne.mpr c22
      have H' := Aside0.mk H
      clear H
      go_wp2
      go_meet
      case rel => exact ⟨_, (true), jr_, H', ⟨by first | omega | exact Nat.le_refl _⟩, ⟨by (with_reducible repeat (first | apply Kd.R_alloc | apply Kd.R_drewN | apply Kd.R_drew)); exact Kd.R_mono (rf2_ (Kd.R_types HO181.out BK183.out (by decide))) (fun _ hk => trivial)⟩, ⟨by (with_reducible repeat (first | apply Kd.R_alloc | apply Kd.R_drewN | apply Kd.R_drew)); exact Kd.R_mono (rf2_ (Kd.R_types HO178.out BK183.out (by decide))) (fun _ hk => trivial)⟩, ⟨by refine pk_ ?_; refine blk_put (cs := #[.int .i64 t175, .slice none 0 0]) ?_ 1 _ rfl; refine pk_ ?_; refine blk_put (cs := #[.int .i64 0, .slice none 0 0]) ?_ 0 _ rfl; exact pk_ BK183.out⟩, ⟨bk_ HB.out⟩⟩
    ·rw [if_neg c21] at H
     have c21b0 : (t168 == 6) = false := beq_eq_false_iff_ne.mpr c21
     have c21b1 : (t168 != 6) = true := bne_iff_ne.mpr c21
     have H' := Aside0.mk H
     clear H
     go_wp2
     go_meet
     case rel => exact ⟨_, (true), jr_, H', ⟨by first | omega | exact Nat.le_refl _⟩, ⟨by (with_reducible repeat (first | apply Kd.R_alloc | apply Kd.R_drewN | apply Kd.R_drew)); exact Kd.R_mono (rf2_ (Kd.R_types HO181.out BK183.out (by decide))) (fun _ hk => trivial)⟩, ⟨by (with_reducible repeat (first | apply Kd.R_alloc | apply Kd.R_drewN | apply Kd.R_drew)); exact Kd.R_mono (rf2_ (Kd.R_types HO178.out BK183.out (by decide))) (fun _ hk => trivial)⟩, ⟨by refine pk_ ?_; refine blk_put (cs := #[.int .i64 t175, .slice none 0 0]) ?_ 1 _ rfl; refine pk_ ?_; refine blk_put (cs := #[.int .i64 0, .slice none 0 0]) ?_ 0 _ rfl; exact pk_ BK183.out⟩, ⟨bk_ HB.out⟩⟩
   ·rw [if_neg c20] at H
    have c20b0 : (t164 == 0) = false := beq_eq_false_iff_ne.mpr c20
    have c20b1 : (t164 != 0) = true := bne_iff_ne.mpr c20
    have H' := Aside0.mk H
    clear H
    go_wp2
    go_meet
    case rel => exact ⟨_, (true), jr_, H', ⟨by first | omega | exact Nat.le_refl _⟩, ⟨by (with_reducible repeat (first | apply Kd.R_alloc | apply Kd.R_drewN | apply Kd.R_drew)); exact Kd.R_mono (rf2_ (Kd.R_types HO181.out BK183.out (by decide))) (fun _ hk => trivial)⟩, ⟨by (with_reducible repeat (first | apply Kd.R_alloc | apply Kd.R_drewN | apply Kd.R_drew)); exact Kd.R_mono (rf2_ (Kd.R_types HO178.out BK183.out (by decide))) (fun _ hk => trivial)⟩, ⟨by refine pk_ ?_; refine blk_put (cs := #[.int .i64 t175, .slice none 0 0]) ?_ 1 _ rfl; refine pk_ ?_; refine blk_put (cs := #[.int .i64 0, .slice none 0 0]) ?_ 0 _ rfl; exact pk_ BK183.out⟩, ⟨bk_ HB.out⟩⟩
  ·rw [if_neg c19] at H
   have c19b0 : (t162 == 0) = false := beq_eq_false_iff_ne.mpr c19
   have c19b1 : (t162 != 0) = true := bne_iff_ne.mpr c19
   (first | rw [c19b0] | (simp only [i64_w, i32_w]; rw [c19b0]) | skip)
   have H' := Aside0.mk H
   clear H
   go_wp2
   go_meet
   case rel => exact ⟨_, (true), jr_, H', ⟨by first | omega | exact Nat.le_refl _⟩, ⟨by (with_reducible repeat (first | apply Kd.R_alloc | apply Kd.R_drewN | apply Kd.R_drew)); exact Kd.R_mono (rf2_ (Kd.R_types HO181.out BK183.out (by decide))) (fun _ hk => trivial)⟩, ⟨by (with_reducible repeat (first | apply Kd.R_alloc | apply Kd.R_drewN | apply Kd.R_drew)); exact Kd.R_mono (rf2_ (Kd.R_types HO178.out BK183.out (by decide))) (fun _ hk => trivial)⟩, ⟨by refine pk_ ?_; refine blk_put (cs := #[.int .i64 t175, .slice none 0 0]) ?_ 1 _ rfl; refine pk_ ?_; refine blk_put (cs := #[.int .i64 0, .slice none 0 0]) ?_ 0 _ rfl; exact pk_ BK183.out⟩, ⟨bk_ HB.out⟩⟩
 case rest => as_aux_lemma =>
  clear HC6
  (try clear hcz17_0); (try clear hcz17_1); (try clear hfz17_0); (try clear hfz17_1)
  obtain ⟨kq, x87_5, rfl, HA, HJ5, HO_8, HO_184001, BK183, HB⟩ := hcut
  cases kq with
  | zero => exact absurd HA.out (by simp [standstilllaw08_awake.j0])
  | succ kj5 =>
   have H := HA.out
   clear HA
   simp only [standstilllaw08_awake.j0] at H
   by_cases c54 : x87_5 = true
   ·subst c54
    have H1 : (some false) = some r := by rw [if_pos rfl] at H; exact H
    clear H
    have H := H1
    clear H1
    obtain rfl := Option.some.inj H
    go_wp2
    go_ret
    exact ⟨er_, bk_ HB.out⟩
   ·replace c54 := Bool.eq_false_iff.mpr c54
    subst c54
    have H1 : (if 0 < (t179.length : Int) then ((standstillref06_Run.f t175 t176 (rd t179 0) (([8, 0] : List Int)) 100000).bind fun bt192 => (if bt192.2.2.2 = true then (if 2 < (t179.length : Int) then (if bt192.1 = (rd t179 2) then ((standstillref06_SameCount.f kj5 bt192.1 bt192.2.1 (rd t179 2) (([27, 0] : List Int))).bind fun t204 => (some t204)) else (some false)) else (none)) else (some false))) else (none)) = some r := by rw [if_neg (show ¬ (false = true) by decide)] at H; exact H
    clear H
    have H := H1
    clear H1
    by_cases c55 : 0 < (t179.length : Int)
    ·rw [if_pos c55] at H
     have c55b0 : decide (0 < (t179.length : Int)) = true := decide_eq_true c55
     have c55b1 : decide (0 < t179.length) = true := decide_eq_true (by omega)
     clear c55
     obtain ⟨y189, hy189⟩ : ∃ y_ : List Int, y_ = (([8, 0] : List Int)) := ⟨_, rfl⟩
     replace H : ((standstillref06_Run.f t175 t176 (rd t179 0) y189 100000).bind fun bt192 => (if bt192.2.2.2 = true then (if 2 < (t179.length : Int) then (if bt192.1 = (rd t179 2) then ((standstillref06_SameCount.f kj5 bt192.1 bt192.2.1 (rd t179 2) (([27, 0] : List Int))).bind fun t204 => (some t204)) else (some false)) else (none)) else (some false))) = some r := by first | (rw [hy189]; with_reducible exact H) | (have H2_ := (Option.bind_some _ _).symm.trans H; rw [hy189]; with_reducible exact H2_) | (have H2_ := (Option.bind_some _ _).symm.trans H; with_reducible exact H2_) | with_reducible exact H | (rw [hy189]; exact H) | exact H
     have Ny189 := Aside0.mk hy189
     clear hy189
     replace H := Option.bind_eq_some_iff.mp H
     obtain ⟨⟨t192, t193, t196, t197⟩, A560, H⟩ := H
     replace H : (if t197 = true then (if 2 < (t179.length : Int) then (if t192 = (rd t179 2) then ((standstillref06_SameCount.f kj5 t192 t193 (rd t179 2) (([27, 0] : List Int))).bind fun t204 => (some t204)) else (some false)) else (none)) else (some false)) = some r := H
     have A56 := Aside0.mk A560
     clear A560
     by_cases c57 : t197 = true
     ·subst c57
      have H1 : (if 2 < (t179.length : Int) then (if t192 = (rd t179 2) then ((standstillref06_SameCount.f kj5 t192 t193 (rd t179 2) (([27, 0] : List Int))).bind fun t204 => (some t204)) else (some false)) else (none)) = some r := by rw [if_pos rfl] at H; exact H
      clear H
      have H := H1
      clear H1
      by_cases c58 : 2 < (t179.length : Int)
      ·rw [if_pos c58] at H
       have c58b0 : decide (2 < (t179.length : Int)) = true := decide_eq_true c58
       have c58b1 : decide (2 < t179.length) = true := decide_eq_true (by omega)
       clear c58
       by_cases c59 : t192 = (rd t179 2)
       ·rw [if_pos c59] at H
        have c59b0 : (t192 == (rd t179 2)) = true := beq_iff_eq.mpr c59
        have c59b1 : (t192 != (rd t179 2)) = false := bne_eq_false_iff_eq.mpr c59
        clear c59
        obtain ⟨y201, hy201⟩ : ∃ y_ : List Int, y_ = (([27, 0] : List Int)) := ⟨_, rfl⟩
        replace H : ((standstillref06_SameCount.f kj5 t192 t193 (rd t179 2) y201).bind fun t204 => (some t204)) = some r := by first | (rw [hy201]; with_reducible exact H) | (have H2_ := (Option.bind_some _ _).symm.trans H; rw [hy201]; with_reducible exact H2_) | (have H2_ := (Option.bind_some _ _).symm.trans H; with_reducible exact H2_) | with_reducible exact H | (rw [hy201]; exact H) | exact H
        have Ny201 := Aside0.mk hy201
        clear hy201
        replace H := Option.bind_eq_some_iff.mp H
        obtain ⟨t204, A600, H⟩ := H
        replace H : (some t204) = some r := H
        have A60 := Aside0.mk A600
        clear A600
        obtain rfl := Option.some.inj H
        try go_wp2
        have n0_ := A_ (Kd.R_drew HO_8.out)
        have n1_ := A_ (Kd.R_drew HO_184001.out)
        have n2_ := A_ (blk_drew BK183.out)
        have n3_ := A_ (below_drew1 HB.out)
        clear HO_8 HO_184001 BK183 HB
        have HO_8 := n0_
        have HO_184001 := n1_
        have BK183 := n2_
        have HB := n3_
        clear n0_ n1_ n2_ n3_
        obtain ⟨Ao62, co62, eo62⟩ := Kd.R_slice HO_8.out
        (first | subst eo62 | (injection eo62 with f1_ f2_ f3_; have f4_ := f1_.symm; have f5_ := f3_.symm; clear f1_ f2_ f3_; subst f4_; subst f5_))
        have p188 : 0 ≤ (0 : Int) := (by omega)
        have q188 : 0 < (t179.length : Int) := od_
        obtain ⟨ad188, e188, hx188_0⟩ := Kd.at_int (Kd.R_reads' HO_8.out).2.2 0 p188 q188
        cases e188
        have qi188 : (0 < t179.length) = True := eq_true (by omega)
        (try rw [show ((0 : Int)).toNat = 0 from rfl] at hx188_0)
        (try rw [Addr.add_zero'] at hx188_0)
        replace p188 := eq_true p188
        replace q188 := eq_true q188
        refine start_ (n := 15) (S := fun w' => w'.cell? ⟨gb183, 0, none⟩ = some (.int .i64 t175) ∧ w'.cell? ⟨gb183, 1, none⟩ = some (.slice Ao18 t176.length co18) ∧ w'.cell? ad188 = some (.int .i64 (rd t179 0))) (ds := []) #[false, false, false, false, false, false, false, false, false, false, false, false, false, false, false] (by kernel_rfl) rfl rfl ⟨(blk_cell BK183.out 0).trans rfl, (blk_cell BK183.out 1).trans rfl, hx188_0⟩ (fun hHeld => ?_); refine with_tabW standstilllaw08_awake.tab7 standstilllaw08_awake.bits7 (fun HT_ HW_ => ?_)
        generalize wc.drew = w61 at HO_8 HO_184001 BK183 HB hx188_0 hHeld ⊢
        refine pure_ (i := 1) (N := some 90) (v := ?_) (a' := ?_) #[false, true, false, false, false, false, false, false, false, false, false, false, false, false, false] rfl rfl (any_of HT_.out (by kernel_rfl)) (fun _ _ _ h => h) (Or.inl ⟨by rfl, ?_⟩) ?_ ?_
        rotate_left
        ·intro w'
         go_simp
         with_reducible rfl
        rotate_left
        ·simp only [Act.put, sa_, sz_, ss_, i64_w, i32_w]
         rfl
        refine pure_ (i := 2) (N := some 91) (v := ?_) (a' := ?_) #[false, true, true, false, false, false, false, false, false, false, false, false, false, false, false] rfl rfl (any_of HT_.out (by kernel_rfl)) (fun _ _ _ h => h) (Or.inl ⟨by rfl, ?_⟩) ?_ ?_
        rotate_left
        ·intro w'
         go_simp
         with_reducible rfl
        rotate_left
        ·simp only [Act.put, sa_, sz_, ss_, i64_w, i32_w]
         rfl
        refine take_ (i := 0) (N := some 89) (v := ?_) (a' := ?_) #[true, true, true, false, false, false, false, false, false, false, false, false, false, false, false] rfl rfl (take_ofW HT_.out HW_.out (by kernel_rfl)) (fun _ _ _ h => h) (Or.inl ⟨by rfl, ?_⟩) hHeld ?_ ?_
        rotate_left
        ·rintro w' ⟨s0, s1, s2⟩
         go_simp
         with_reducible rfl
        rotate_left
        ·simp only [Act.put, sa_, sz_, ss_, i64_w, i32_w]
         rfl
        refine take_ (i := 3) (N := some 92) (v := ?_) (a' := ?_) #[true, true, true, true, false, false, false, false, false, false, false, false, false, false, false] rfl rfl (take_ofW HT_.out HW_.out (by kernel_rfl)) (fun _ _ _ h => h) (Or.inl ⟨by rfl, ?_⟩) hHeld ?_ ?_
        rotate_left
        ·rintro w' ⟨s0, s1, s2⟩
         go_simp
         with_reducible rfl
        rotate_left
        ·simp only [Act.put, sa_, sz_, ss_, i64_w, i32_w]
         rfl
        refine join_ (σ := Value × Value × Nat) 3 #[true, true, true, true, true, true, true, true, true, true, true, true, false, false, false] (fun s_ => [(93, s_.1), (95, .tuple #[.agg #[.int .i64 t192, s_.2.1], .int .i64 t196, .bool true]), (10, .pointer (some ⟨s_.2.2, 0, none⟩)), (94, .agg #[.int .i64 (rd t179 0), s_.1]), (88, .tuple #[.agg #[.int .i64 t192, s_.2.1], .int .i64 t196, .bool true]), (96, .agg #[.int .i64 t192, s_.2.1]), (97, .int .i64 t196), (98, .bool true)]) (fun s_ w' => (w'.cell? ⟨gb183, 0, none⟩ = some (.int .i64 t175) ∧ w'.cell? ⟨gb183, 1, none⟩ = some (.slice Ao18 t176.length co18) ∧ w'.cell? ad188 = some (.int .i64 (rd t179 0))) ∧ (Kd.R (Kd.int .i64) 3 w' w.heap.size (fun k_ => some k_ ≠ (s_.2.1 : Value).ownBlock ∧ some k_ ≠ (.slice (some ad188) t179.length co62 : Value).ownBlock) s_.1 y189) ∧ (Kd.R (Kd.int .i64) 3 w' w.heap.size (fun k_ => some k_ ≠ (s_.1 : Value).ownBlock ∧ some k_ ≠ (.slice (some ad188) t179.length co62 : Value).ownBlock) s_.2.1 t193) ∧ (Kd.R k45 45 w' w.heap.size (fun _ => True) (.slice Ao18 t176.length co18) t176) ∧ (Kd.R (Kd.int .i64) 3 w' w.heap.size (fun k_ => some k_ ≠ (s_.1 : Value).ownBlock ∧ some k_ ≠ (s_.2.1 : Value).ownBlock) (.slice (some ad188) t179.length co62) t179) ∧ (w'.heap[gb183]? = some (.cells #[.int .i64 t175, .slice Ao18 t176.length co18] 38 (0, 0))) ∧ (w'.heap[s_.2.2]? = some (.cells #[.int .i64 0, .slice none 0 0] 47 (0, 0))) ∧ (w.heap.size ≤ s_.2.2) ∧ (w.heap.size ≤ s_.2.2) ∧ (gb183 ≠ s_.2.2) ∧ (s_.2.2 ≠ gb183) ∧ (Below w.heap.size w w')) ?_ ?_
        rotate_left
        ·intro hCont
         refine two_ (i := 4) (j := 11) (Ni := some 93) (Nj := some 10) #[true, true, true, true, true, false, false, false, false, false, false, false, false, false, false] #[true, true, true, true, false, false, false, false, false, false, false, true, false, false, false] rfl rfl rfl rfl (two_of HT_.out (by kernel_rfl)) (by decide) (by decide) (fun K hK => ?_) (fun K hK => ?_)
         ·skip
          refine Kd.R_lit_step (Kd.int .i64) _ 3 ?hg (N := 93) ?hd (xs := ([8, 0] : List Int)) (inner := [.int .i64 8, .int .i64 0]) (ok := fun _ => True) (okp := fun _ => True) ?hr ?hp (fun _ hk => hk) trivial (Below.refl _ _) (Nat.le_refl _) (by simp) ?_; (case hd => rfl); (case hg => rfl); (case hr => first | (go_simp; done) | (go_simp; rfl)); (case hp => exact (Reps.one (show Kd.M (Kd.int .i64) _ _ _ 8 [.int .i64 8] from rfl) (Reps.one (show Kd.M (Kd.int .i64) _ _ _ 0 [.int .i64 0] from rfl) (Reps.none _ _))))
          intro v190 w63 ho64 hb hg_ hnew_
          have HS2_ := (hb.cell (World.block_lt_of_cell? _ _ (hHeld.2.2))).trans (hHeld.2.2)
          clear hg_ hnew_
          (first | rw [← Ny189.out] at ho64 | (simp only [Int.reduceToNat] at ho64; rw [← Ny189.out] at ho64))
          have n0_ := A_ (Kd.R_elder' (rk_ HO_8.out) (Kd.R_base ho64) hb)
          have n1_ := A_ (Kd.R_below (rk_ HO_184001.out) hb)
          have n2_ := A_ (Kd.R_lower (Kd.R_new' ho64 (Kd.R_lt (rk_ HO_8.out))) (below_size (bk_ HB.out)))
          have n3_ := A_ (blk_below (pk_ BK183.out) hb)
          have n4_ := A_ (below_step (bk_ HB.out) hb)
          clear HO_8 HO_184001 BK183 HB
          have HO_8 := n0_
          have HO_184001 := n1_
          have HO191 := n2_
          have BK183 := n3_
          have HB := n4_
          clear n0_ n1_ n2_ n3_ n4_ hb ho64
          obtain ⟨Ao65, co65, eo65⟩ := Kd.R_slice HO191.out
          (first | subst eo65 | (injection eo65 with f1_ f2_ f3_; have f4_ := f1_.symm; have f5_ := f3_.symm; clear f1_ f2_ f3_; subst f4_; subst f5_))
          refine hK.out _ _ ⟨(blk_cell BK183.out 0).trans rfl, (blk_cell BK183.out 1).trans rfl, HS2_⟩ (fun hHeld => ?_)
          clear hK K
          refine norm_ (a' := ?_) ?_ ?_
          rotate_left
          ·show Act.put _ (some 93) _ = _
           simp only [Act.put, sa_, sz_, ss_, i64_w, i32_w]
           rfl
          refine pure_ (i := 5) (N := some 94) (v := ?_) (a' := ?_) #[true, true, true, true, true, true, false, false, false, false, false, false, false, false, false] rfl rfl (any_of HT_.out (by kernel_rfl)) (fun _ _ _ h => h) (Or.inl ⟨by rfl, ?_⟩) ?_ ?_
          rotate_left
          ·intro w'
           go_simp
           with_reducible rfl
          rotate_left
          ·simp only [Act.put, sa_, sz_, ss_, i64_w, i32_w]
           rfl
          refine two_ (i := 6) (j := 11) (Ni := some 95) (Nj := some 10) #[true, true, true, true, true, true, true, false, false, false, false, false, false, false, false] #[true, true, true, true, true, true, false, false, false, false, false, true, false, false, false] rfl rfl rfl rfl (two_of HT_.out (by kernel_rfl)) (by decide) (by decide) (fun K hK => ?_) (fun K hK => ?_)
          ·skip
           refine goes_ Try.func21 (by kernel_rfl) rfl #[.agg #[.int .i64 t175, .slice Ao18 t176.length co18], .agg #[.int .i64 (rd t179 0), .slice Ao65 y189.length co65], .int .i64 100000] (by rfl) rfl rfl gl_ ?_
           with_reducible refine (standstillref06_Run.calls t175 _ _ t176 (rd t179 0) _ _ y189 100000 t192 t193 t196 true _ ?side1 ?side2 ?side3 ?side4 A56.out).mono ?_
           (case side1 => repeat (first | exact (Kd.R_reads' HO_184001.out).2.2 | (with_reducible refine Kd.C_alloc ?_ _) | (with_reducible refine Kd.C_drewN ?_ _) | (with_reducible refine Kd.C_drew ?_)))
           (case side2 => exact (Kd.R_reads' HO_184001.out).2.1)
           (case side3 => repeat (first | exact (Kd.R_reads' HO191.out).2.2 | (with_reducible refine Kd.C_alloc ?_ _) | (with_reducible refine Kd.C_drewN ?_ _) | (with_reducible refine Kd.C_drew ?_)))
           (case side4 => exact (Kd.R_reads' HO191.out).2.1)
           rintro e w66 ⟨v194, rfl, ho0, hb⟩
           have HS2_ := (hb.cell (World.block_lt_of_cell? _ _ (hHeld.2.2))).trans (hHeld.2.2)
           refine ⟨_, rfl, ?_⟩
           have n0_ := A_ (Kd.R_elder' (rk_ HO_8.out) (Kd.R_base ho0) hb)
           have n1_ := A_ (Kd.R_below (rk_ HO_184001.out) hb)
           have n2_ := A_ (Kd.R_elder' (rk_ HO191.out) (Kd.R_base ho0) hb)
           have n3_ := A_ (Kd.R_lower (Kd.R_new' (Kd.R_new' ho0 (Kd.R_lt (rk_ HO_8.out))) (Kd.R_lt (rk_ HO191.out))) (below_size (bk_ HB.out)))
           have n4_ := A_ (blk_below (pk_ BK183.out) hb)
           have n5_ := A_ (below_step (bk_ HB.out) hb)
           clear HO_8 HO_184001 HO191 BK183 HB
           have HO_8 := n0_
           have HO_184001 := n1_
           have HO191 := n2_
           have HO195 := n3_
           have BK183 := n4_
           have HB := n5_
           clear n0_ n1_ n2_ n3_ n4_ n5_
           (try clear hb)
           (try clear hb2)
           (try clear hk)
           (try clear hi)
           (try clear ho0)
           refine hK.out _ _ ⟨(blk_cell BK183.out 0).trans rfl, (blk_cell BK183.out 1).trans rfl, HS2_⟩ (fun hHeld => ?_)
           clear hK K
           refine norm_ (a' := ?_) ?_ ?_
           rotate_left
           ·show Act.put _ (some 95) _ = _
            simp only [Act.put, sa_, sz_, ss_, i64_w, i32_w]
            rfl
           refine pure_ (i := 7) (N := some 88) (v := ?_) (a' := ?_) #[true, true, true, true, true, true, true, true, false, false, false, false, false, false, false] rfl rfl (any_of HT_.out (by kernel_rfl)) (fun _ _ _ h => h) (Or.inl ⟨by rfl, ?_⟩) ?_ ?_
           rotate_left
           ·intro w'
            go_simp
            with_reducible rfl
           rotate_left
           ·simp only [Act.put, sa_, sz_, ss_, i64_w, i32_w]
            rfl
           refine pure_ (i := 8) (N := some 96) (v := ?_) (a' := ?_) #[true, true, true, true, true, true, true, true, true, false, false, false, false, false, false] rfl rfl (any_of HT_.out (by kernel_rfl)) (fun _ _ _ h => h) (Or.inl ⟨by rfl, ?_⟩) ?_ ?_
           rotate_left
           ·intro w'
            go_simp
            with_reducible rfl
           rotate_left
           ·simp only [Act.put, sa_, sz_, ss_, i64_w, i32_w]
            rfl
           refine pure_ (i := 9) (N := some 97) (v := ?_) (a' := ?_) #[true, true, true, true, true, true, true, true, true, true, false, false, false, false, false] rfl rfl (any_of HT_.out (by kernel_rfl)) (fun _ _ _ h => h) (Or.inl ⟨by rfl, ?_⟩) ?_ ?_
           rotate_left
           ·intro w'
            go_simp
            with_reducible rfl
           rotate_left
           ·simp only [Act.put, sa_, sz_, ss_, i64_w, i32_w]
            rfl
           refine pure_ (i := 10) (N := some 98) (v := ?_) (a' := ?_) #[true, true, true, true, true, true, true, true, true, true, true, false, false, false, false] rfl rfl (any_of HT_.out (by kernel_rfl)) (fun _ _ _ h => h) (Or.inl ⟨by rfl, ?_⟩) ?_ ?_
           rotate_left
           ·intro w'
            go_simp
            with_reducible rfl
           rotate_left
           ·simp only [Act.put, sa_, sz_, ss_, i64_w, i32_w]
            rfl
           refine one_ (i := 11) (N := some 10) #[true, true, true, true, true, true, true, true, true, true, true, true, false, false, false] rfl rfl (one_of HT_.out (by kernel_rfl)) (by decide) (fun K hK => ?_)
           refine box_step ?hg (N := 10) ?hd (cs := #[.int .i64 0, .slice none 0 0]) (t := 47) ?hr ?_; (case hd => rfl); (case hg => rfl); (case hr => first | (go_simp; done) | (go_simp; rfl))
           intro gb198 hg w67 hbox hb
           have HS2_ := (hb.cell (World.block_lt_of_cell? _ _ (hHeld.2.2))).trans (hHeld.2.2)
           have n0_ := A_ (Kd.R_below (rk_ HO_8.out) hb)
           have n1_ := A_ (Kd.R_below (rk_ HO_184001.out) hb)
           have n2_ := A_ (Kd.R_below (rk_ HO191.out) hb)
           have n3_ := A_ (Kd.R_below (rk_ HO195.out) hb)
           have n4_ := A_ (blk_below (pk_ BK183.out) hb)
           have n5_ := A_ (below_step (bk_ HB.out) hb)
           have n6_ := A_ (hbox)
           have n7_ := A_ (bz_ hg (bk_ HB.out))
           have n8_ := A_ (bz_ hg (bk_ HB.out))
           have n9_ := A_ (nl_ hg (pk_ BK183.out))
           have n10_ := A_ (ng_ hg (pk_ BK183.out))
           clear HO_8 HO_184001 HO191 HO195 BK183 HB
           have HO_8 := n0_
           have HO_184001 := n1_
           have HO191 := n2_
           have HO195 := n3_
           have BK183 := n4_
           have HB := n5_
           have BK198 := n6_
           have GW198 := n7_
           have GE198 := n8_
           have NB183_198 := n9_
           have NB198_183 := n10_
           clear n0_ n1_ n2_ n3_ n4_ n5_ n6_ n7_ n8_ n9_ n10_ hb hbox hg
           refine hK.out _ _ ⟨(blk_cell BK183.out 0).trans rfl, (blk_cell BK183.out 1).trans rfl, HS2_⟩ (fun hHeld => ?_)
           clear hK K
           refine norm_ (a' := ?_) ?_ ?_
           rotate_left
           ·show Act.put _ (some 10) _ = _
            simp only [Act.put, sa_, sz_, ss_, i64_w, i32_w]
            rfl
           exact norm_ (by simp only [putAll, Act.put, List.setIfInBounds_toArray, List.set_cons_zero, List.set_cons_succ]) (hCont (.slice Ao65 y189.length co65, v194, gb198) _ ⟨hHeld, (by (with_reducible repeat (first | apply Kd.R_alloc | apply Kd.R_drewN | apply Kd.R_drew)); exact Kd.R_mono HO191.out (fun _ hk => ⟨hk.2, hk.1.2⟩)), (by (with_reducible repeat (first | apply Kd.R_alloc | apply Kd.R_drewN | apply Kd.R_drew)); exact Kd.R_mono HO195.out (fun _ hk => ⟨hk.2, hk.1.2⟩)), (rk_ HO_184001.out), (by (with_reducible repeat (first | apply Kd.R_alloc | apply Kd.R_drewN | apply Kd.R_drew)); exact Kd.R_mono HO_8.out (fun _ hk => ⟨hk.1.2, hk.2⟩)), (pk_ BK183.out), (pk_ BK198.out), GW198.out, GE198.out, NB183_198.out, NB198_183.out, (bk_ HB.out)⟩)
          ·skip
           refine box_step ?hg (N := 10) ?hd (cs := #[.int .i64 0, .slice none 0 0]) (t := 47) ?hr ?_; (case hd => rfl); (case hg => rfl); (case hr => first | (go_simp; done) | (go_simp; rfl))
           intro gb198 hg w66 hbox hb
           have HS2_ := (hb.cell (World.block_lt_of_cell? _ _ (hHeld.2.2))).trans (hHeld.2.2)
           have n0_ := A_ (Kd.R_below (rk_ HO_8.out) hb)
           have n1_ := A_ (Kd.R_below (rk_ HO_184001.out) hb)
           have n2_ := A_ (Kd.R_below (rk_ HO191.out) hb)
           have n3_ := A_ (blk_below (pk_ BK183.out) hb)
           have n4_ := A_ (below_step (bk_ HB.out) hb)
           have n5_ := A_ (hbox)
           have n6_ := A_ (bz_ hg (bk_ HB.out))
           have n7_ := A_ (bz_ hg (bk_ HB.out))
           have n8_ := A_ (nl_ hg (pk_ BK183.out))
           have n9_ := A_ (ng_ hg (pk_ BK183.out))
           clear HO_8 HO_184001 HO191 BK183 HB
           have HO_8 := n0_
           have HO_184001 := n1_
           have HO191 := n2_
           have BK183 := n3_
           have HB := n4_
           have BK198 := n5_
           have GW198 := n6_
           have GE198 := n7_
           have NB183_198 := n8_
           have NB198_183 := n9_
           clear n0_ n1_ n2_ n3_ n4_ n5_ n6_ n7_ n8_ n9_ hb hbox hg
           refine hK.out _ _ ⟨(blk_cell BK183.out 0).trans rfl, (blk_cell BK183.out 1).trans rfl, HS2_⟩ (fun hHeld => ?_)
           clear hK K
           refine norm_ (a' := ?_) ?_ ?_
           rotate_left
           ·show Act.put _ (some 10) _ = _
            simp only [Act.put, sa_, sz_, ss_, i64_w, i32_w]
            rfl
           refine one_ (i := 6) (N := some 95) #[true, true, true, true, true, true, true, false, false, false, false, true, false, false, false] rfl rfl (one_of HT_.out (by kernel_rfl)) (by decide) (fun K hK => ?_)
           refine goes_ Try.func21 (by kernel_rfl) rfl #[.agg #[.int .i64 t175, .slice Ao18 t176.length co18], .agg #[.int .i64 (rd t179 0), .slice Ao65 y189.length co65], .int .i64 100000] (by rfl) rfl rfl gl_ ?_
           with_reducible refine (standstillref06_Run.calls t175 _ _ t176 (rd t179 0) _ _ y189 100000 t192 t193 t196 true _ ?side1 ?side2 ?side3 ?side4 A56.out).mono ?_
           (case side1 => repeat (first | exact (Kd.R_reads' HO_184001.out).2.2 | (with_reducible refine Kd.C_alloc ?_ _) | (with_reducible refine Kd.C_drewN ?_ _) | (with_reducible refine Kd.C_drew ?_)))
           (case side2 => exact (Kd.R_reads' HO_184001.out).2.1)
           (case side3 => repeat (first | exact (Kd.R_reads' HO191.out).2.2 | (with_reducible refine Kd.C_alloc ?_ _) | (with_reducible refine Kd.C_drewN ?_ _) | (with_reducible refine Kd.C_drew ?_)))
           (case side4 => exact (Kd.R_reads' HO191.out).2.1)
           rintro e w67 ⟨v194, rfl, ho0, hb⟩
           have HS2_ := (hb.cell (World.block_lt_of_cell? _ _ (hHeld.2.2))).trans (hHeld.2.2)
           refine ⟨_, rfl, ?_⟩
           have n0_ := A_ (Kd.R_elder' (rk_ HO_8.out) (Kd.R_base ho0) hb)
           have n1_ := A_ (Kd.R_below (rk_ HO_184001.out) hb)
           have n2_ := A_ (Kd.R_elder' (rk_ HO191.out) (Kd.R_base ho0) hb)
           have n3_ := A_ (Kd.R_lower (Kd.R_new' (Kd.R_new' ho0 (Kd.R_lt (rk_ HO_8.out))) (Kd.R_lt (rk_ HO191.out))) (below_size (bk_ HB.out)))
           have n4_ := A_ (blk_below (pk_ BK183.out) hb)
           have n5_ := A_ (blk_below (pk_ BK198.out) hb)
           have n6_ := A_ (below_step (bk_ HB.out) hb)
           clear HO_8 HO_184001 HO191 BK183 BK198 HB
           have HO_8 := n0_
           have HO_184001 := n1_
           have HO191 := n2_
           have HO195 := n3_
           have BK183 := n4_
           have BK198 := n5_
           have HB := n6_
           clear n0_ n1_ n2_ n3_ n4_ n5_ n6_
           (try clear hb)
           (try clear hb2)
           (try clear hk)
           (try clear hi)
           (try clear ho0)
           refine hK.out _ _ ⟨(blk_cell BK183.out 0).trans rfl, (blk_cell BK183.out 1).trans rfl, HS2_⟩ (fun hHeld => ?_)
           clear hK K
           refine norm_ (a' := ?_) ?_ ?_
           rotate_left
           ·show Act.put _ (some 95) _ = _
            simp only [Act.put, sa_, sz_, ss_, i64_w, i32_w]
            rfl
           refine pure_ (i := 7) (N := some 88) (v := ?_) (a' := ?_) #[true, true, true, true, true, true, true, true, false, false, false, true, false, false, false] rfl rfl (any_of HT_.out (by kernel_rfl)) (fun _ _ _ h => h) (Or.inl ⟨by rfl, ?_⟩) ?_ ?_
           rotate_left
           ·intro w'
            go_simp
            with_reducible rfl
           rotate_left
           ·simp only [Act.put, sa_, sz_, ss_, i64_w, i32_w]
            rfl
           refine pure_ (i := 8) (N := some 96) (v := ?_) (a' := ?_) #[true, true, true, true, true, true, true, true, true, false, false, true, false, false, false] rfl rfl (any_of HT_.out (by kernel_rfl)) (fun _ _ _ h => h) (Or.inl ⟨by rfl, ?_⟩) ?_ ?_
           rotate_left
           ·intro w'
            go_simp
            with_reducible rfl
           rotate_left
           ·simp only [Act.put, sa_, sz_, ss_, i64_w, i32_w]
            rfl
           refine pure_ (i := 9) (N := some 97) (v := ?_) (a' := ?_) #[true, true, true, true, true, true, true, true, true, true, false, true, false, false, false] rfl rfl (any_of HT_.out (by kernel_rfl)) (fun _ _ _ h => h) (Or.inl ⟨by rfl, ?_⟩) ?_ ?_
           rotate_left
           ·intro w'
            go_simp
            with_reducible rfl
           rotate_left
           ·simp only [Act.put, sa_, sz_, ss_, i64_w, i32_w]
            rfl
           refine pure_ (i := 10) (N := some 98) (v := ?_) (a' := ?_) #[true, true, true, true, true, true, true, true, true, true, true, true, false, false, false] rfl rfl (any_of HT_.out (by kernel_rfl)) (fun _ _ _ h => h) (Or.inl ⟨by rfl, ?_⟩) ?_ ?_
           rotate_left
           ·intro w'
            go_simp
            with_reducible rfl
           rotate_left
           ·simp only [Act.put, sa_, sz_, ss_, i64_w, i32_w]
            rfl
           exact norm_ (by simp only [putAll, Act.put, List.setIfInBounds_toArray, List.set_cons_zero, List.set_cons_succ]) (hCont (.slice Ao65 y189.length co65, v194, gb198) _ ⟨hHeld, (by (with_reducible repeat (first | apply Kd.R_alloc | apply Kd.R_drewN | apply Kd.R_drew)); exact Kd.R_mono HO191.out (fun _ hk => ⟨hk.2, hk.1.2⟩)), (by (with_reducible repeat (first | apply Kd.R_alloc | apply Kd.R_drewN | apply Kd.R_drew)); exact Kd.R_mono HO195.out (fun _ hk => ⟨hk.2, hk.1.2⟩)), (rk_ HO_184001.out), (by (with_reducible repeat (first | apply Kd.R_alloc | apply Kd.R_drewN | apply Kd.R_drew)); exact Kd.R_mono HO_8.out (fun _ hk => ⟨hk.1.2, hk.2⟩)), (pk_ BK183.out), (pk_ BK198.out), GW198.out, GE198.out, NB183_198.out, NB198_183.out, (bk_ HB.out)⟩)
         ·skip
          refine box_step ?hg (N := 10) ?hd (cs := #[.int .i64 0, .slice none 0 0]) (t := 47) ?hr ?_; (case hd => rfl); (case hg => rfl); (case hr => first | (go_simp; done) | (go_simp; rfl))
          intro gb198 hg w63 hbox hb
          have HS2_ := (hb.cell (World.block_lt_of_cell? _ _ (hHeld.2.2))).trans (hHeld.2.2)
          have n0_ := A_ (Kd.R_below (rk_ HO_8.out) hb)
          have n1_ := A_ (Kd.R_below (rk_ HO_184001.out) hb)
          have n2_ := A_ (blk_below (pk_ BK183.out) hb)
          have n3_ := A_ (below_step (bk_ HB.out) hb)
          have n4_ := A_ (hbox)
          have n5_ := A_ (bz_ hg (bk_ HB.out))
          have n6_ := A_ (bz_ hg (bk_ HB.out))
          have n7_ := A_ (nl_ hg (pk_ BK183.out))
          have n8_ := A_ (ng_ hg (pk_ BK183.out))
          clear HO_8 HO_184001 BK183 HB
          have HO_8 := n0_
          have HO_184001 := n1_
          have BK183 := n2_
          have HB := n3_
          have BK198 := n4_
          have GW198 := n5_
          have GE198 := n6_
          have NB183_198 := n7_
          have NB198_183 := n8_
          clear n0_ n1_ n2_ n3_ n4_ n5_ n6_ n7_ n8_ hb hbox hg
          refine hK.out _ _ ⟨(blk_cell BK183.out 0).trans rfl, (blk_cell BK183.out 1).trans rfl, HS2_⟩ (fun hHeld => ?_)
          clear hK K
          refine norm_ (a' := ?_) ?_ ?_
          rotate_left
          ·show Act.put _ (some 10) _ = _
           simp only [Act.put, sa_, sz_, ss_, i64_w, i32_w]
           rfl
          refine one_ (i := 4) (N := some 93) #[true, true, true, true, true, false, false, false, false, false, false, true, false, false, false] rfl rfl (one_of HT_.out (by kernel_rfl)) (by decide) (fun K hK => ?_)
          refine Kd.R_lit_step (Kd.int .i64) _ 3 ?hg (N := 93) ?hd (xs := ([8, 0] : List Int)) (inner := [.int .i64 8, .int .i64 0]) (ok := fun _ => True) (okp := fun _ => True) ?hr ?hp (fun _ hk => hk) trivial (Below.refl _ _) (Nat.le_refl _) (by simp) ?_; (case hd => rfl); (case hg => rfl); (case hr => first | (go_simp; done) | (go_simp; rfl)); (case hp => exact (Reps.one (show Kd.M (Kd.int .i64) _ _ _ 8 [.int .i64 8] from rfl) (Reps.one (show Kd.M (Kd.int .i64) _ _ _ 0 [.int .i64 0] from rfl) (Reps.none _ _))))
          intro v190 w64 ho65 hb hg_ hnew_
          have HS2_ := (hb.cell (World.block_lt_of_cell? _ _ (hHeld.2.2))).trans (hHeld.2.2)
          clear hg_ hnew_
          (first | rw [← Ny189.out] at ho65 | (simp only [Int.reduceToNat] at ho65; rw [← Ny189.out] at ho65))
          have n0_ := A_ (Kd.R_elder' (rk_ HO_8.out) (Kd.R_base ho65) hb)
          have n1_ := A_ (Kd.R_below (rk_ HO_184001.out) hb)
          have n2_ := A_ (Kd.R_lower (Kd.R_new' ho65 (Kd.R_lt (rk_ HO_8.out))) (below_size (bk_ HB.out)))
          have n3_ := A_ (blk_below (pk_ BK183.out) hb)
          have n4_ := A_ (blk_below (pk_ BK198.out) hb)
          have n5_ := A_ (below_step (bk_ HB.out) hb)
          clear HO_8 HO_184001 BK183 BK198 HB
          have HO_8 := n0_
          have HO_184001 := n1_
          have HO191 := n2_
          have BK183 := n3_
          have BK198 := n4_
          have HB := n5_
          clear n0_ n1_ n2_ n3_ n4_ n5_ hb ho65
          obtain ⟨Ao66, co66, eo66⟩ := Kd.R_slice HO191.out
          (first | subst eo66 | (injection eo66 with f1_ f2_ f3_; have f4_ := f1_.symm; have f5_ := f3_.symm; clear f1_ f2_ f3_; subst f4_; subst f5_))
          refine hK.out _ _ ⟨(blk_cell BK183.out 0).trans rfl, (blk_cell BK183.out 1).trans rfl, HS2_⟩ (fun hHeld => ?_)
          clear hK K
          refine norm_ (a' := ?_) ?_ ?_
          rotate_left
          ·show Act.put _ (some 93) _ = _
           simp only [Act.put, sa_, sz_, ss_, i64_w, i32_w]
           rfl
          refine pure_ (i := 5) (N := some 94) (v := ?_) (a' := ?_) #[true, true, true, true, true, true, false, false, false, false, false, true, false, false, false] rfl rfl (any_of HT_.out (by kernel_rfl)) (fun _ _ _ h => h) (Or.inl ⟨by rfl, ?_⟩) ?_ ?_
          rotate_left
          ·intro w'
           go_simp
           with_reducible rfl
          rotate_left
          ·simp only [Act.put, sa_, sz_, ss_, i64_w, i32_w]
           rfl
          refine one_ (i := 6) (N := some 95) #[true, true, true, true, true, true, true, false, false, false, false, true, false, false, false] rfl rfl (one_of HT_.out (by kernel_rfl)) (by decide) (fun K hK => ?_)
          refine goes_ Try.func21 (by kernel_rfl) rfl #[.agg #[.int .i64 t175, .slice Ao18 t176.length co18], .agg #[.int .i64 (rd t179 0), .slice Ao66 y189.length co66], .int .i64 100000] (by rfl) rfl rfl gl_ ?_
          with_reducible refine (standstillref06_Run.calls t175 _ _ t176 (rd t179 0) _ _ y189 100000 t192 t193 t196 true _ ?side1 ?side2 ?side3 ?side4 A56.out).mono ?_
          (case side1 => repeat (first | exact (Kd.R_reads' HO_184001.out).2.2 | (with_reducible refine Kd.C_alloc ?_ _) | (with_reducible refine Kd.C_drewN ?_ _) | (with_reducible refine Kd.C_drew ?_)))
          (case side2 => exact (Kd.R_reads' HO_184001.out).2.1)
          (case side3 => repeat (first | exact (Kd.R_reads' HO191.out).2.2 | (with_reducible refine Kd.C_alloc ?_ _) | (with_reducible refine Kd.C_drewN ?_ _) | (with_reducible refine Kd.C_drew ?_)))
          (case side4 => exact (Kd.R_reads' HO191.out).2.1)
          rintro e w67 ⟨v194, rfl, ho0, hb⟩
          have HS2_ := (hb.cell (World.block_lt_of_cell? _ _ (hHeld.2.2))).trans (hHeld.2.2)
          refine ⟨_, rfl, ?_⟩
          have n0_ := A_ (Kd.R_elder' (rk_ HO_8.out) (Kd.R_base ho0) hb)
          have n1_ := A_ (Kd.R_below (rk_ HO_184001.out) hb)
          have n2_ := A_ (Kd.R_elder' (rk_ HO191.out) (Kd.R_base ho0) hb)
          have n3_ := A_ (Kd.R_lower (Kd.R_new' (Kd.R_new' ho0 (Kd.R_lt (rk_ HO_8.out))) (Kd.R_lt (rk_ HO191.out))) (below_size (bk_ HB.out)))
          have n4_ := A_ (blk_below (pk_ BK183.out) hb)
          have n5_ := A_ (blk_below (pk_ BK198.out) hb)
          have n6_ := A_ (below_step (bk_ HB.out) hb)
          clear HO_8 HO_184001 HO191 BK183 BK198 HB
          have HO_8 := n0_
          have HO_184001 := n1_
          have HO191 := n2_
          have HO195 := n3_
          have BK183 := n4_
          have BK198 := n5_
          have HB := n6_
          clear n0_ n1_ n2_ n3_ n4_ n5_ n6_
          (try clear hb)
          (try clear hb2)
          (try clear hk)
          (try clear hi)
          (try clear ho0)
          refine hK.out _ _ ⟨(blk_cell BK183.out 0).trans rfl, (blk_cell BK183.out 1).trans rfl, HS2_⟩ (fun hHeld => ?_)
          clear hK K
          refine norm_ (a' := ?_) ?_ ?_
          rotate_left
          ·show Act.put _ (some 95) _ = _
           simp only [Act.put, sa_, sz_, ss_, i64_w, i32_w]
           rfl
          refine pure_ (i := 7) (N := some 88) (v := ?_) (a' := ?_) #[true, true, true, true, true, true, true, true, false, false, false, true, false, false, false] rfl rfl (any_of HT_.out (by kernel_rfl)) (fun _ _ _ h => h) (Or.inl ⟨by rfl, ?_⟩) ?_ ?_
          rotate_left
          ·intro w'
           go_simp
           with_reducible rfl
          rotate_left
          ·simp only [Act.put, sa_, sz_, ss_, i64_w, i32_w]
           rfl
          refine pure_ (i := 8) (N := some 96) (v := ?_) (a' := ?_) #[true, true, true, true, true, true, true, true, true, false, false, true, false, false, false] rfl rfl (any_of HT_.out (by kernel_rfl)) (fun _ _ _ h => h) (Or.inl ⟨by rfl, ?_⟩) ?_ ?_
          rotate_left
          ·intro w'
           go_simp
           with_reducible rfl
          rotate_left
          ·simp only [Act.put, sa_, sz_, ss_, i64_w, i32_w]
           rfl
          refine pure_ (i := 9) (N := some 97) (v := ?_) (a' := ?_) #[true, true, true, true, true, true, true, true, true, true, false, true, false, false, false] rfl rfl (any_of HT_.out (by kernel_rfl)) (fun _ _ _ h => h) (Or.inl ⟨by rfl, ?_⟩) ?_ ?_
          rotate_left
          ·intro w'
           go_simp
           with_reducible rfl
          rotate_left
          ·simp only [Act.put, sa_, sz_, ss_, i64_w, i32_w]
           rfl
          refine pure_ (i := 10) (N := some 98) (v := ?_) (a' := ?_) #[true, true, true, true, true, true, true, true, true, true, true, true, false, false, false] rfl rfl (any_of HT_.out (by kernel_rfl)) (fun _ _ _ h => h) (Or.inl ⟨by rfl, ?_⟩) ?_ ?_
          rotate_left
          ·intro w'
           go_simp
           with_reducible rfl
          rotate_left
          ·simp only [Act.put, sa_, sz_, ss_, i64_w, i32_w]
           rfl
          exact norm_ (by simp only [putAll, Act.put, List.setIfInBounds_toArray, List.set_cons_zero, List.set_cons_succ]) (hCont (.slice Ao66 y189.length co66, v194, gb198) _ ⟨hHeld, (by (with_reducible repeat (first | apply Kd.R_alloc | apply Kd.R_drewN | apply Kd.R_drew)); exact Kd.R_mono HO191.out (fun _ hk => ⟨hk.2, hk.1.2⟩)), (by (with_reducible repeat (first | apply Kd.R_alloc | apply Kd.R_drewN | apply Kd.R_drew)); exact Kd.R_mono HO195.out (fun _ hk => ⟨hk.2, hk.1.2⟩)), (rk_ HO_184001.out), (by (with_reducible repeat (first | apply Kd.R_alloc | apply Kd.R_drewN | apply Kd.R_drew)); exact Kd.R_mono HO_8.out (fun _ hk => ⟨hk.1.2, hk.2⟩)), (pk_ BK183.out), (pk_ BK198.out), GW198.out, GE198.out, NB183_198.out, NB198_183.out, (bk_ HB.out)⟩)
        rintro ⟨v190, v194, gb198⟩ w68 ⟨hS_, h0_, h1_, h2_, h3_, h4_, h5_, h6_, h7_, h8_, h9_, h10_⟩
        have n0_ : Aside0 (Kd.R (Kd.int .i64) 3 w68 w.heap.size (fun k_ => some k_ ≠ (v194 : Value).ownBlock ∧ some k_ ≠ (.slice (some ad188) t179.length co62 : Value).ownBlock) v190 y189) := ⟨h0_⟩
        have n1_ : Aside0 (Kd.R (Kd.int .i64) 3 w68 w.heap.size (fun k_ => some k_ ≠ (v190 : Value).ownBlock ∧ some k_ ≠ (.slice (some ad188) t179.length co62 : Value).ownBlock) v194 t193) := ⟨h1_⟩
        have n2_ : Aside0 (Kd.R k45 45 w68 w.heap.size (fun _ => True) (.slice Ao18 t176.length co18) t176) := ⟨h2_⟩
        have n3_ : Aside0 (Kd.R (Kd.int .i64) 3 w68 w.heap.size (fun k_ => some k_ ≠ (v190 : Value).ownBlock ∧ some k_ ≠ (v194 : Value).ownBlock) (.slice (some ad188) t179.length co62) t179) := ⟨h3_⟩
        have n4_ : Aside0 (w68.heap[gb183]? = some (.cells #[.int .i64 t175, .slice Ao18 t176.length co18] 38 (0, 0))) := ⟨h4_⟩
        have n5_ : Aside0 (w68.heap[gb198]? = some (.cells #[.int .i64 0, .slice none 0 0] 47 (0, 0))) := ⟨h5_⟩
        have n6_ : Aside0 (w.heap.size ≤ gb198) := ⟨h6_⟩
        have n7_ : Aside0 (w.heap.size ≤ gb198) := ⟨h7_⟩
        have n8_ : Aside0 (gb183 ≠ gb198) := ⟨h8_⟩
        have n9_ : Aside0 (gb198 ≠ gb183) := ⟨h9_⟩
        have n10_ : Aside0 (Below w.heap.size w w68) := ⟨h10_⟩
        clear HO_8 HO_184001 BK183 HB h0_ h1_ h2_ h3_ h4_ h5_ h6_ h7_ h8_ h9_ h10_
        have HO191 := n0_
        have HO195 := n1_
        have HO_184001 := n2_
        have HO_8 := n3_
        have BK183 := n4_
        have BK198 := n5_
        have GW198 := n6_
        have GE198 := n7_
        have NB183_198 := n8_
        have NB198_183 := n9_
        have HB := n10_
        clear n0_ n1_ n2_ n3_ n4_ n5_ n6_ n7_ n8_ n9_ n10_
        have hHeld : w68.cell? ⟨gb183, 0, none⟩ = some (.int .i64 t175) ∧ w68.cell? ⟨gb183, 1, none⟩ = some (.slice Ao18 t176.length co18) ∧ w68.cell? ad188 = some (.int .i64 (rd t179 0)) := hS_
        obtain ⟨Ao69, co69, eo69⟩ := Kd.R_slice HO191.out
        (first | subst eo69 | (injection eo69 with f1_ f2_ f3_; have f4_ := f1_.symm; have f5_ := f3_.symm; clear f1_ f2_ f3_; subst f4_; subst f5_))
        obtain ⟨Ao71, co71, eo71⟩ := Kd.R_slice HO195.out
        (first | subst eo71 | (injection eo71 with f1_ f2_ f3_; have f4_ := f1_.symm; have f5_ := f3_.symm; clear f1_ f2_ f3_; subst f4_; subst f5_))
        refine norm_ (a' := ?_) ?_ ?_
        rotate_left
        ·simp only [putAll, Act.put, List.setIfInBounds_toArray, List.set_cons_zero, List.set_cons_succ]
         rfl
        refine one_ (i := 12) (N := none) #[true, true, true, true, true, true, true, true, true, true, true, true, true, false, false] rfl rfl (one_of HT_.out (by kernel_rfl)) (by decide) (fun K hK => ?_)
        have hs70 : w68.cell? ⟨gb198, 0, none⟩ = some (.int .i64 0) := (blk_cell BK198.out 0).trans rfl
        have hfs70 := blk_frozen BK198.out 0
        have hns70_0 := NB183_198.out
        have hms70_0 := NB198_183.out
        have hs72 : w68.cell? ⟨gb198, 1, none⟩ = some (.slice none 0 0) := (blk_cell BK198.out 1).trans rfl
        have hfs72 := blk_frozen BK198.out 1
        have hns72_0 := NB183_198.out
        have hms72_0 := NB198_183.out
        refine skip_ (w1 := ?_) (by rfl) rfl ?_ ?_
        rotate_left
        ·go_simp
         rfl
        refine hK.out _ _ ⟨(cf2_ NB183_198.out hHeld.1), (cf2_ NB183_198.out hHeld.2.1), ((cell_far (p := ⟨gb198, _, none⟩) (by first | exact Kd.own_blk (Kd.R_ne HO_8.out BK198.out (by decide)) | (rw [add_block]; exact Kd.own_blk (Kd.R_ne HO_8.out BK198.out (by decide))) | (show (Addr.add _ _).block ≠ _; rw [add_block]; exact Kd.own_blk (Kd.R_ne HO_8.out BK198.out (by decide))) | (dsimp only; exact Kd.own_blk (Kd.R_ne HO_8.out BK198.out (by decide)))) _).trans (((cell_far (p := ⟨gb198, _, none⟩) (by first | exact Kd.own_blk (Kd.R_ne HO_8.out BK198.out (by decide)) | (rw [add_block]; exact Kd.own_blk (Kd.R_ne HO_8.out BK198.out (by decide))) | (show (Addr.add _ _).block ≠ _; rw [add_block]; exact Kd.own_blk (Kd.R_ne HO_8.out BK198.out (by decide))) | (dsimp only; exact Kd.own_blk (Kd.R_ne HO_8.out BK198.out (by decide)))) _).trans (hHeld.2.2))))⟩ (fun hHeld => ?_)
        clear hK K
        refine pure_ (i := 13) (N := some 11) (v := ?_) (a' := ?_) #[true, true, true, true, true, true, true, true, true, true, true, true, true, true, false] rfl rfl (any_of HT_.out (by kernel_rfl)) (fun _ _ _ h => h) (Or.inl ⟨by rfl, ?_⟩) ?_ ?_
        rotate_left
        ·intro w'
         go_simp
         with_reducible rfl
        rotate_left
        ·simp only [Act.put, sa_, sz_, ss_, i64_w, i32_w]
         rfl
        refine pure_ (i := 14) (N := some 12) (v := ?_) (a' := ?_) #[true, true, true, true, true, true, true, true, true, true, true, true, true, true, true] rfl rfl (any_of HT_.out (by kernel_rfl)) (fun _ _ _ h => h) (Or.inl ⟨by rfl, ?_⟩) ?_ ?_
        rotate_left
        ·intro w'
         go_simp
         with_reducible rfl
        rotate_left
        ·simp only [Act.put, sa_, sz_, ss_, i64_w, i32_w]
         rfl
        refine done_ (done_of HT_.out (by kernel_rfl)) ?_
        try go_wp2
        have n0_ : Aside0 (Kd.R (Kd.int .i64) 3 ((w68.setCell ⟨gb198, 0, none⟩ (.int .i64 t192)).setCell ⟨gb198, 1, none⟩ (.slice Ao71 t193.length co71)) w.heap.size (fun k_ => some k_ ≠ (.slice Ao69 y189.length co69 : Value).ownBlock ∧ some k_ ≠ (.slice Ao71 t193.length co71 : Value).ownBlock) (.slice (some ad188) t179.length co62) t179) := ⟨by (with_reducible repeat (first | apply Kd.R_alloc | apply Kd.R_drewN | apply Kd.R_drew)); exact Kd.R_mono (rf2_ (Kd.R_types HO_8.out BK198.out (by decide))) (fun _ hk => ⟨hk.1.1, hk.1.2⟩)⟩
        have n1_ : Aside0 (Kd.R k45 45 ((w68.setCell ⟨gb198, 0, none⟩ (.int .i64 t192)).setCell ⟨gb198, 1, none⟩ (.slice Ao71 t193.length co71)) w.heap.size (fun _ => True) (.slice Ao18 t176.length co18) t176) := ⟨by (with_reducible repeat (first | apply Kd.R_alloc | apply Kd.R_drewN | apply Kd.R_drew)); exact Kd.R_mono (rf2_ (Kd.R_types HO_184001.out BK198.out (by decide))) (fun _ hk => trivial)⟩
        have n2_ : Aside0 (Kd.R (Kd.int .i64) 3 ((w68.setCell ⟨gb198, 0, none⟩ (.int .i64 t192)).setCell ⟨gb198, 1, none⟩ (.slice Ao71 t193.length co71)) w.heap.size (fun k_ => some k_ ≠ (.slice (some ad188) t179.length co62 : Value).ownBlock ∧ some k_ ≠ (.slice Ao71 t193.length co71 : Value).ownBlock) (.slice Ao69 y189.length co69) y189) := ⟨by (with_reducible repeat (first | apply Kd.R_alloc | apply Kd.R_drewN | apply Kd.R_drew)); exact Kd.R_mono (rf2_ (Kd.R_types HO191.out BK198.out (by decide))) (fun _ hk => ⟨hk.1.2, hk.1.1⟩)⟩
        have n3_ : Aside0 (Kd.R (Kd.int .i64) 3 ((w68.setCell ⟨gb198, 0, none⟩ (.int .i64 t192)).setCell ⟨gb198, 1, none⟩ (.slice Ao71 t193.length co71)) w.heap.size (fun k_ => some k_ ≠ (.slice (some ad188) t179.length co62 : Value).ownBlock ∧ some k_ ≠ (.slice Ao69 y189.length co69 : Value).ownBlock) (.slice Ao71 t193.length co71) t193) := ⟨by (with_reducible repeat (first | apply Kd.R_alloc | apply Kd.R_drewN | apply Kd.R_drew)); exact Kd.R_mono (rf2_ (Kd.R_types HO195.out BK198.out (by decide))) (fun _ hk => ⟨hk.1.2, hk.1.1⟩)⟩
        have n4_ : Aside0 (((w68.setCell ⟨gb198, 0, none⟩ (.int .i64 t192)).setCell ⟨gb198, 1, none⟩ (.slice Ao71 t193.length co71)).heap[gb183]? = some (.cells #[.int .i64 t175, .slice Ao18 t176.length co18] 38 (0, 0))) := ⟨by (iterate 2 (refine pk_ ?_; refine blk_far ?_ NB183_198.out _)); exact pk_ BK183.out⟩
        have n5_ : Aside0 (((w68.setCell ⟨gb198, 0, none⟩ (.int .i64 t192)).setCell ⟨gb198, 1, none⟩ (.slice Ao71 t193.length co71)).heap[gb198]? = some (.cells #[.int .i64 t192, .slice Ao71 t193.length co71] 47 (0, 0))) := ⟨by refine pk_ ?_; refine blk_put (cs := #[.int .i64 t192, .slice none 0 0]) ?_ 1 _ rfl; refine pk_ ?_; refine blk_put (cs := #[.int .i64 0, .slice none 0 0]) ?_ 0 _ rfl; exact pk_ BK198.out⟩
        have n6_ : Aside0 (Below w.heap.size w ((w68.setCell ⟨gb198, 0, none⟩ (.int .i64 t192)).setCell ⟨gb198, 1, none⟩ (.slice Ao71 t193.length co71))) := ⟨bk_ HB.out⟩
        (try clear HO_8)
        (try clear HO_184001)
        (try clear HO191)
        (try clear HO195)
        (try clear BK183)
        (try clear BK198)
        (try clear HB)
        generalize ((w68.setCell ⟨gb198, 0, none⟩ (.int .i64 t192)).setCell ⟨gb198, 1, none⟩ (.slice Ao71 t193.length co71)) = w73 at n0_ n1_ n2_ n3_ n4_ n5_ n6_ ⊢
        have HO_8 := n0_
        have HO_184001 := n1_
        have HO191 := n2_
        have HO195 := n3_
        have BK183 := n4_
        have BK198 := n5_
        have HB := n6_
        clear n0_ n1_ n2_ n3_ n4_ n5_ n6_
        have n0_ := A_ (Kd.R_drew HO_8.out)
        have n1_ := A_ (Kd.R_drew HO_184001.out)
        have n2_ := A_ (Kd.R_drew HO191.out)
        have n3_ := A_ (Kd.R_drew HO195.out)
        have n4_ := A_ (blk_drew BK183.out)
        have n5_ := A_ (blk_drew BK198.out)
        have n6_ := A_ (below_drew1 HB.out)
        clear HO_8 HO_184001 HO191 HO195 BK183 BK198 HB
        have HO_8 := n0_
        have HO_184001 := n1_
        have HO191 := n2_
        have HO195 := n3_
        have BK183 := n4_
        have BK198 := n5_
        have HB := n6_
        clear n0_ n1_ n2_ n3_ n4_ n5_ n6_
        have p199 : 0 ≤ (2 : Int) := (by omega)
        have q199 : 2 < (t179.length : Int) := od_
        obtain ⟨ad199, e199, hx199_0⟩ := Kd.at_int (Kd.R_reads' HO_8.out).2.2 2 p199 q199
        obtain rfl : ad188 = ad199 := (by injection e199)
        (try simp only [show (2 : Int).toNat = 2 from rfl, Nat.reduceMul, Nat.reduceEqDiff, Go.Addr.add, ↓reduceIte] at hx199_0)
        have qi199 : (2 < t179.length) = True := eq_true (by omega)
        (try rw [show ((2 : Int)).toNat = 2 from rfl] at hx199_0)
        replace p199 := eq_true p199
        replace q199 := eq_true q199
        have p200 : 0 ≤ (2 : Int) := (by omega)
        have q200 : 2 < (t179.length : Int) := od_
        obtain ⟨ad200, e200, hx200_0⟩ := Kd.at_int (Kd.R_reads' HO_8.out).2.2 2 p200 q200
        obtain rfl : ad188 = ad200 := (by injection e200)
        (try simp only [show (2 : Int).toNat = 2 from rfl, Nat.reduceMul, Nat.reduceEqDiff, Go.Addr.add, ↓reduceIte] at hx200_0)
        have qi200 : (2 < t179.length) = True := eq_true (by omega)
        (try rw [show ((2 : Int)).toNat = 2 from rfl] at hx200_0)
        replace p200 := eq_true p200
        replace q200 := eq_true q200
        refine start_ (n := 19) (S := fun w' => w'.cell? ⟨gb198, 0, none⟩ = some (.int .i64 t192) ∧ w'.cell? ⟨gb198, 1, none⟩ = some (.slice Ao71 t193.length co71) ∧ w'.cell? ⟨ad188.block, ad188.off + 2, none⟩ = some (.int .i64 (rd t179 2)) ∧ w'.cell? ⟨ad188.block, ad188.off + 2, none⟩ = some (.int .i64 (rd t179 2))) (ds := []) #[false, false, false, false, false, false, false, false, false, false, false, false, false, false, false, false, false, false, false] (by kernel_rfl) rfl rfl ⟨(blk_cell BK198.out 0).trans rfl, (blk_cell BK198.out 1).trans rfl, hx199_0, hx200_0⟩ (fun hHeld => ?_); refine with_tabW standstilllaw08_awake.tab8 standstilllaw08_awake.bits8 (fun HT_ HW_ => ?_)
        generalize w73.drew = w74 at HO_8 HO_184001 HO191 HO195 BK183 BK198 HB hx199_0 hx200_0 hHeld ⊢
        refine pure_ (i := 0) (N := some 99) (v := ?_) (a' := ?_) #[true, false, false, false, false, false, false, false, false, false, false, false, false, false, false, false, false, false, false] rfl rfl (any_of HT_.out (by kernel_rfl)) (fun _ _ _ h => h) (Or.inl ⟨by rfl, ?_⟩) ?_ ?_
        rotate_left
        ·intro w'
         go_simp
         with_reducible rfl
        rotate_left
        ·simp only [Act.put, sa_, sz_, ss_, i64_w, i32_w]
         rfl
        refine pure_ (i := 1) (N := some 100) (v := ?_) (a' := ?_) #[true, true, false, false, false, false, false, false, false, false, false, false, false, false, false, false, false, false, false] rfl rfl (any_of HT_.out (by kernel_rfl)) (fun _ _ _ h => h) (Or.inl ⟨by rfl, ?_⟩) ?_ ?_
        rotate_left
        ·intro w'
         go_simp
         with_reducible rfl
        rotate_left
        ·simp only [Act.put, sa_, sz_, ss_, i64_w, i32_w]
         rfl
        refine pure_ (i := 2) (N := some 101) (v := ?_) (a' := ?_) #[true, true, true, false, false, false, false, false, false, false, false, false, false, false, false, false, false, false, false] rfl rfl (any_of HT_.out (by kernel_rfl)) (fun _ _ _ h => h) (Or.inl ⟨by rfl, ?_⟩) ?_ ?_
        rotate_left
        ·intro w'
         go_simp
         with_reducible rfl
        rotate_left
        ·simp only [Act.put, sa_, sz_, ss_, i64_w, i32_w]
         rfl
        refine pure_ (i := 4) (N := some 103) (v := ?_) (a' := ?_) #[true, true, true, false, true, false, false, false, false, false, false, false, false, false, false, false, false, false, false] rfl rfl (any_of HT_.out (by kernel_rfl)) (fun _ _ _ h => h) (Or.inl ⟨by rfl, ?_⟩) ?_ ?_
        rotate_left
        ·intro w'
         go_simp
         with_reducible rfl
        rotate_left
        ·simp only [Act.put, sa_, sz_, ss_, i64_w, i32_w]
         rfl
        refine pure_ (i := 5) (N := some 104) (v := ?_) (a' := ?_) #[true, true, true, false, true, true, false, false, false, false, false, false, false, false, false, false, false, false, false] rfl rfl (any_of HT_.out (by kernel_rfl)) (fun _ _ _ h => h) (Or.inl ⟨by rfl, ?_⟩) ?_ ?_
        rotate_left
        ·intro w'
         go_simp
         with_reducible rfl
        rotate_left
        ·simp only [Act.put, sa_, sz_, ss_, i64_w, i32_w]
         rfl
        refine take_ (i := 3) (N := some 102) (v := ?_) (a' := ?_) #[true, true, true, true, true, true, false, false, false, false, false, false, false, false, false, false, false, false, false] rfl rfl (take_ofW HT_.out HW_.out (by kernel_rfl)) (fun _ _ _ h => h) (Or.inl ⟨by rfl, ?_⟩) hHeld ?_ ?_
        rotate_left
        ·rintro w' ⟨s0, s1, s2, s3⟩
         go_simp
         with_reducible rfl
        rotate_left
        ·simp only [Act.put, sa_, sz_, ss_, i64_w, i32_w]
         rfl
        refine take_ (i := 6) (N := some 105) (v := ?_) (a' := ?_) #[true, true, true, true, true, true, true, false, false, false, false, false, false, false, false, false, false, false, false] rfl rfl (take_ofW HT_.out HW_.out (by kernel_rfl)) (fun _ _ _ h => h) (Or.inl ⟨by rfl, ?_⟩) hHeld ?_ ?_
        rotate_left
        ·rintro w' ⟨s0, s1, s2, s3⟩
         go_simp
         with_reducible rfl
        rotate_left
        ·simp only [Act.put, sa_, sz_, ss_, i64_w, i32_w]
         rfl
        refine pure_ (i := 7) (N := some 106) (v := ?_) (a' := ?_) #[true, true, true, true, true, true, true, true, false, false, false, false, false, false, false, false, false, false, false] rfl rfl (any_of HT_.out (by kernel_rfl)) (fun _ _ _ h => h) (Or.inl ⟨by rfl, ?_⟩) ?_ ?_
        rotate_left
        ·intro w'
         go_simp
         with_reducible rfl
        rotate_left
        ·simp only [Act.put, sa_, sz_, ss_, i64_w, i32_w]
         rfl
        refine pure_ (i := 8) (N := some 107) (v := ?_) (a' := ?_) #[true, true, true, true, true, true, true, true, true, false, false, false, false, false, false, false, false, false, false] rfl rfl (any_of HT_.out (by kernel_rfl)) (fun _ _ _ h => h) (Or.inl ⟨by rfl, ?_⟩) ?_ ?_
        rotate_left
        ·intro w'
         go_simp
         with_reducible rfl
        rotate_left
        ·simp only [Act.put, sa_, sz_, ss_, i64_w, i32_w]
         rfl
        refine pure_ (i := 9) (N := some 108) (v := ?_) (a' := ?_) #[true, true, true, true, true, true, true, true, true, true, false, false, false, false, false, false, false, false, false] rfl rfl (any_of HT_.out (by kernel_rfl)) (fun _ _ _ h => h) (Or.inl ⟨by rfl, ?_⟩) ?_ ?_
        rotate_left
        ·intro w'
         go_simp
         with_reducible rfl
        rotate_left
        ·simp only [Act.put, sa_, sz_, ss_, i64_w, i32_w]
         rfl
        refine pure_ (i := 11) (N := some 110) (v := ?_) (a' := ?_) #[true, true, true, true, true, true, true, true, true, true, false, true, false, false, false, false, false, false, false] rfl rfl (any_of HT_.out (by kernel_rfl)) (fun _ _ _ h => h) (Or.inl ⟨by rfl, ?_⟩) ?_ ?_
        rotate_left
        ·intro w'
         go_simp
         with_reducible rfl
        rotate_left
        ·simp only [Act.put, sa_, sz_, ss_, i64_w, i32_w]
         rfl
        refine pure_ (i := 12) (N := some 111) (v := ?_) (a' := ?_) #[true, true, true, true, true, true, true, true, true, true, false, true, true, false, false, false, false, false, false] rfl rfl (any_of HT_.out (by kernel_rfl)) (fun _ _ _ h => h) (Or.inl ⟨by rfl, ?_⟩) ?_ ?_
        rotate_left
        ·intro w'
         go_simp
         with_reducible rfl
        rotate_left
        ·simp only [Act.put, sa_, sz_, ss_, i64_w, i32_w]
         rfl
        refine take_ (i := 10) (N := some 109) (v := ?_) (a' := ?_) #[true, true, true, true, true, true, true, true, true, true, true, true, true, false, false, false, false, false, false] rfl rfl (take_ofW HT_.out HW_.out (by kernel_rfl)) (fun _ _ _ h => h) (Or.inl ⟨by rfl, ?_⟩) hHeld ?_ ?_
        rotate_left
        ·rintro w' ⟨s0, s1, s2, s3⟩
         go_simp
         with_reducible rfl
        rotate_left
        ·simp only [Act.put, sa_, sz_, ss_, i64_w, i32_w]
         rfl
        refine take_ (i := 13) (N := some 112) (v := ?_) (a' := ?_) #[true, true, true, true, true, true, true, true, true, true, true, true, true, true, false, false, false, false, false] rfl rfl (take_ofW HT_.out HW_.out (by kernel_rfl)) (fun _ _ _ h => h) (Or.inl ⟨by rfl, ?_⟩) hHeld ?_ ?_
        rotate_left
        ·rintro w' ⟨s0, s1, s2, s3⟩
         go_simp
         with_reducible rfl
        rotate_left
        ·simp only [Act.put, sa_, sz_, ss_, i64_w, i32_w]
         rfl
        refine one_ (i := 14) (N := some 113) #[true, true, true, true, true, true, true, true, true, true, true, true, true, true, true, false, false, false, false] rfl rfl (one_of HT_.out (by kernel_rfl)) (by decide) (fun K hK => ?_)
        refine Kd.R_lit_step (Kd.int .i64) _ 3 ?hg (N := 113) ?hd (xs := ([27, 0] : List Int)) (inner := [.int .i64 27, .int .i64 0]) (ok := fun _ => True) (okp := fun _ => True) ?hr ?hp (fun _ hk => hk) trivial (Below.refl _ _) (Nat.le_refl _) (by simp) ?_; (case hd => rfl); (case hg => rfl); (case hr => first | (go_simp; done) | (go_simp; rfl)); (case hp => exact (Reps.one (show Kd.M (Kd.int .i64) _ _ _ 27 [.int .i64 27] from rfl) (Reps.one (show Kd.M (Kd.int .i64) _ _ _ 0 [.int .i64 0] from rfl) (Reps.none _ _))))
        intro v202 w75 ho76 hb hg_ hnew_
        have HS2_ := (hb.cell (World.block_lt_of_cell? _ _ (hHeld.2.2.1))).trans (hHeld.2.2.1)
        have HS3_ := (hb.cell (World.block_lt_of_cell? _ _ (hHeld.2.2.2))).trans (hHeld.2.2.2)
        clear hg_ hnew_
        (first | rw [← Ny201.out] at ho76 | (simp only [Int.reduceToNat] at ho76; rw [← Ny201.out] at ho76))
        have n0_ := A_ (Kd.R_elder' (rk_ HO_8.out) (Kd.R_base ho76) hb)
        have n1_ := A_ (Kd.R_below (rk_ HO_184001.out) hb)
        have n2_ := A_ (Kd.R_elder' (rk_ HO191.out) (Kd.R_base ho76) hb)
        have n3_ := A_ (Kd.R_elder' (rk_ HO195.out) (Kd.R_base ho76) hb)
        have n4_ := A_ (Kd.R_lower (Kd.R_new' (Kd.R_new' (Kd.R_new' ho76 (Kd.R_lt (rk_ HO_8.out))) (Kd.R_lt (rk_ HO191.out))) (Kd.R_lt (rk_ HO195.out))) (below_size (bk_ HB.out)))
        have n5_ := A_ (blk_below (pk_ BK183.out) hb)
        have n6_ := A_ (blk_below (pk_ BK198.out) hb)
        have n7_ := A_ (below_step (bk_ HB.out) hb)
        clear HO_8 HO_184001 HO191 HO195 BK183 BK198 HB
        have HO_8 := n0_
        have HO_184001 := n1_
        have HO191 := n2_
        have HO195 := n3_
        have HO203 := n4_
        have BK183 := n5_
        have BK198 := n6_
        have HB := n7_
        clear n0_ n1_ n2_ n3_ n4_ n5_ n6_ n7_ hb ho76
        obtain ⟨Ao77, co77, eo77⟩ := Kd.R_slice HO203.out
        (first | subst eo77 | (injection eo77 with f1_ f2_ f3_; have f4_ := f1_.symm; have f5_ := f3_.symm; clear f1_ f2_ f3_; subst f4_; subst f5_))
        refine hK.out _ _ ⟨(blk_cell BK198.out 0).trans rfl, (blk_cell BK198.out 1).trans rfl, HS2_, HS3_⟩ (fun hHeld => ?_)
        clear hK K
        refine norm_ (a' := ?_) ?_ ?_
        rotate_left
        ·show Act.put _ (some 113) _ = _
         simp only [Act.put, sa_, sz_, ss_, i64_w, i32_w]
         rfl
        refine pure_ (i := 15) (N := some 114) (v := ?_) (a' := ?_) #[true, true, true, true, true, true, true, true, true, true, true, true, true, true, true, true, false, false, false] rfl rfl (any_of HT_.out (by kernel_rfl)) (fun _ _ _ h => h) (Or.inl ⟨by rfl, ?_⟩) ?_ ?_
        rotate_left
        ·intro w'
         go_simp
         with_reducible rfl
        rotate_left
        ·simp only [Act.put, sa_, sz_, ss_, i64_w, i32_w]
         rfl
        refine one_ (i := 16) (N := some 115) #[true, true, true, true, true, true, true, true, true, true, true, true, true, true, true, true, true, false, false] rfl rfl (one_of HT_.out (by kernel_rfl)) (by decide) (fun K hK => ?_)
        refine goes_ Try.func22 (by kernel_rfl) rfl #[.agg #[.int .i64 t192, .slice Ao71 t193.length co71], .agg #[.int .i64 (rd t179 2), .slice Ao77 y201.length co77]] (by rfl) rfl rfl gl_ ?_
        with_reducible refine (standstillref06_SameCount.calls kj5 t192 _ _ t193 (rd t179 2) _ _ y201 t204 _ ?side1 ?side2 ?side3 ?side4 A60.out).mono ?_
        (case side1 => repeat (first | exact (Kd.R_reads' HO195.out).2.2 | (with_reducible refine Kd.C_alloc ?_ _) | (with_reducible refine Kd.C_drewN ?_ _) | (with_reducible refine Kd.C_drew ?_)))
        (case side2 => exact (Kd.R_reads' HO195.out).2.1)
        (case side3 => repeat (first | exact (Kd.R_reads' HO203.out).2.2 | (with_reducible refine Kd.C_alloc ?_ _) | (with_reducible refine Kd.C_drewN ?_ _) | (with_reducible refine Kd.C_drew ?_)))
        (case side4 => exact (Kd.R_reads' HO203.out).2.1)
        rintro e w78 ⟨rfl, hb⟩
        have HS2_ := (hb.cell (World.block_lt_of_cell? _ _ (hHeld.2.2.1))).trans (hHeld.2.2.1)
        have HS3_ := (hb.cell (World.block_lt_of_cell? _ _ (hHeld.2.2.2))).trans (hHeld.2.2.2)
        refine ⟨_, rfl, ?_⟩
        have n0_ := A_ (Kd.R_below (rk_ HO_8.out) hb)
        have n1_ := A_ (Kd.R_below (rk_ HO_184001.out) hb)
        have n2_ := A_ (Kd.R_below (rk_ HO191.out) hb)
        have n3_ := A_ (Kd.R_below (rk_ HO195.out) hb)
        have n5_ := A_ (blk_below (pk_ BK183.out) hb)
        have n6_ := A_ (blk_below (pk_ BK198.out) hb)
        have n7_ := A_ (below_step (bk_ HB.out) hb)
        clear HO_8 HO_184001 HO191 HO195 BK183 BK198 HB
        have HO_8 := n0_
        have HO_184001 := n1_
        have HO191 := n2_
        have HO195 := n3_
        have BK183 := n5_
        have BK198 := n6_
        have HB := n7_
        clear n0_ n1_ n2_ n3_ n5_ n6_ n7_
        (try clear hb)
        (try clear hb2)
        (try clear hk)
        (try clear hi)
        refine hK.out _ _ ⟨(blk_cell BK198.out 0).trans rfl, (blk_cell BK198.out 1).trans rfl, HS2_, HS3_⟩ (fun hHeld => ?_)
        clear hK K
        refine norm_ (a' := ?_) ?_ ?_
        rotate_left
        ·show Act.put _ (some 115) _ = _
         simp only [Act.put, sa_, sz_, ss_, i64_w, i32_w]
         rfl
        refine pure_ (i := 17) (N := some 116) (v := ?_) (a' := ?_) #[true, true, true, true, true, true, true, true, true, true, true, true, true, true, true, true, true, true, false] rfl rfl (any_of HT_.out (by kernel_rfl)) (fun _ _ _ h => h) (Or.inl ⟨by rfl, ?_⟩) ?_ ?_
        rotate_left
        ·intro w'
         go_simp
         with_reducible rfl
        rotate_left
        ·simp only [Act.put, sa_, sz_, ss_, i64_w, i32_w]
         rfl
        refine pure_ (i := 18) (N := some 0) (v := ?_) (a' := ?_) #[true, true, true, true, true, true, true, true, true, true, true, true, true, true, true, true, true, true, true] rfl rfl (any_of HT_.out (by kernel_rfl)) (fun _ _ _ h => h) (Or.inl ⟨by rfl, ?_⟩) ?_ ?_
        rotate_left
        ·intro w'
         go_simp
         with_reducible rfl
        rotate_left
        ·simp only [Act.put, sa_, sz_, ss_, i64_w, i32_w]
         rfl
        refine done_ (done_of HT_.out (by kernel_rfl)) ?_
        try go_wp2
        go_ret
        exact ⟨er_, bk_ HB.out⟩
       ·rw [if_neg c59] at H
        have c59b0 : (t192 == (rd t179 2)) = false := beq_eq_false_iff_ne.mpr c59
        have c59b1 : (t192 != (rd t179 2)) = true := bne_iff_ne.mpr c59
        obtain rfl := Option.some.inj H
        try go_wp2
        have n0_ := A_ (Kd.R_drew HO_8.out)
        have n1_ := A_ (Kd.R_drew HO_184001.out)
        have n2_ := A_ (blk_drew BK183.out)
        have n3_ := A_ (below_drew1 HB.out)
        clear HO_8 HO_184001 BK183 HB
        have HO_8 := n0_
        have HO_184001 := n1_
        have BK183 := n2_
        have HB := n3_
        clear n0_ n1_ n2_ n3_
        obtain ⟨Ao80, co80, eo80⟩ := Kd.R_slice HO_8.out
        (first | subst eo80 | (injection eo80 with f1_ f2_ f3_; have f4_ := f1_.symm; have f5_ := f3_.symm; clear f1_ f2_ f3_; subst f4_; subst f5_))
        have p188 : 0 ≤ (0 : Int) := (by omega)
        have q188 : 0 < (t179.length : Int) := od_
        obtain ⟨ad188, e188, hx188_0⟩ := Kd.at_int (Kd.R_reads' HO_8.out).2.2 0 p188 q188
        cases e188
        have qi188 : (0 < t179.length) = True := eq_true (by omega)
        (try rw [show ((0 : Int)).toNat = 0 from rfl] at hx188_0)
        (try rw [Addr.add_zero'] at hx188_0)
        replace p188 := eq_true p188
        replace q188 := eq_true q188
        refine start_ (n := 15) (S := fun w' => w'.cell? ⟨gb183, 0, none⟩ = some (.int .i64 t175) ∧ w'.cell? ⟨gb183, 1, none⟩ = some (.slice Ao18 t176.length co18) ∧ w'.cell? ad188 = some (.int .i64 (rd t179 0))) (ds := []) #[false, false, false, false, false, false, false, false, false, false, false, false, false, false, false] (by kernel_rfl) rfl rfl ⟨(blk_cell BK183.out 0).trans rfl, (blk_cell BK183.out 1).trans rfl, hx188_0⟩ (fun hHeld => ?_); refine with_tabW standstilllaw08_awake.tab7 standstilllaw08_awake.bits7 (fun HT_ HW_ => ?_)
        generalize wc.drew = w79 at HO_8 HO_184001 BK183 HB hx188_0 hHeld ⊢
        refine pure_ (i := 1) (N := some 90) (v := ?_) (a' := ?_) #[false, true, false, false, false, false, false, false, false, false, false, false, false, false, false] rfl rfl (any_of HT_.out (by kernel_rfl)) (fun _ _ _ h => h) (Or.inl ⟨by rfl, ?_⟩) ?_ ?_
        rotate_left
        ·intro w'
         go_simp
         with_reducible rfl
        rotate_left
        ·simp only [Act.put, sa_, sz_, ss_, i64_w, i32_w]
         rfl
        refine pure_ (i := 2) (N := some 91) (v := ?_) (a' := ?_) #[false, true, true, false, false, false, false, false, false, false, false, false, false, false, false] rfl rfl (any_of HT_.out (by kernel_rfl)) (fun _ _ _ h => h) (Or.inl ⟨by rfl, ?_⟩) ?_ ?_
        rotate_left
        ·intro w'
         go_simp
         with_reducible rfl
        rotate_left
        ·simp only [Act.put, sa_, sz_, ss_, i64_w, i32_w]
         rfl
        refine take_ (i := 0) (N := some 89) (v := ?_) (a' := ?_) #[true, true, true, false, false, false, false, false, false, false, false, false, false, false, false] rfl rfl (take_ofW HT_.out HW_.out (by kernel_rfl)) (fun _ _ _ h => h) (Or.inl ⟨by rfl, ?_⟩) hHeld ?_ ?_
        rotate_left
        ·rintro w' ⟨s0, s1, s2⟩
         go_simp
         with_reducible rfl
        rotate_left
        ·simp only [Act.put, sa_, sz_, ss_, i64_w, i32_w]
         rfl
        refine take_ (i := 3) (N := some 92) (v := ?_) (a' := ?_) #[true, true, true, true, false, false, false, false, false, false, false, false, false, false, false] rfl rfl (take_ofW HT_.out HW_.out (by kernel_rfl)) (fun _ _ _ h => h) (Or.inl ⟨by rfl, ?_⟩) hHeld ?_ ?_
        rotate_left
        ·rintro w' ⟨s0, s1, s2⟩
         go_simp
         with_reducible rfl
        rotate_left
        ·simp only [Act.put, sa_, sz_, ss_, i64_w, i32_w]
         rfl
        refine join_ (σ := Value × Value × Nat) 3 #[true, true, true, true, true, true, true, true, true, true, true, true, false, false, false] (fun s_ => [(93, s_.1), (95, .tuple #[.agg #[.int .i64 t192, s_.2.1], .int .i64 t196, .bool true]), (10, .pointer (some ⟨s_.2.2, 0, none⟩)), (94, .agg #[.int .i64 (rd t179 0), s_.1]), (88, .tuple #[.agg #[.int .i64 t192, s_.2.1], .int .i64 t196, .bool true]), (96, .agg #[.int .i64 t192, s_.2.1]), (97, .int .i64 t196), (98, .bool true)]) (fun s_ w' => (w'.cell? ⟨gb183, 0, none⟩ = some (.int .i64 t175) ∧ w'.cell? ⟨gb183, 1, none⟩ = some (.slice Ao18 t176.length co18) ∧ w'.cell? ad188 = some (.int .i64 (rd t179 0))) ∧ (Kd.R (Kd.int .i64) 3 w' w.heap.size (fun k_ => some k_ ≠ (s_.2.1 : Value).ownBlock ∧ some k_ ≠ (.slice (some ad188) t179.length co80 : Value).ownBlock) s_.1 y189) ∧ (Kd.R (Kd.int .i64) 3 w' w.heap.size (fun k_ => some k_ ≠ (s_.1 : Value).ownBlock ∧ some k_ ≠ (.slice (some ad188) t179.length co80 : Value).ownBlock) s_.2.1 t193) ∧ (Kd.R k45 45 w' w.heap.size (fun _ => True) (.slice Ao18 t176.length co18) t176) ∧ (Kd.R (Kd.int .i64) 3 w' w.heap.size (fun k_ => some k_ ≠ (s_.1 : Value).ownBlock ∧ some k_ ≠ (s_.2.1 : Value).ownBlock) (.slice (some ad188) t179.length co80) t179) ∧ (w'.heap[gb183]? = some (.cells #[.int .i64 t175, .slice Ao18 t176.length co18] 38 (0, 0))) ∧ (w'.heap[s_.2.2]? = some (.cells #[.int .i64 0, .slice none 0 0] 47 (0, 0))) ∧ (w.heap.size ≤ s_.2.2) ∧ (w.heap.size ≤ s_.2.2) ∧ (gb183 ≠ s_.2.2) ∧ (s_.2.2 ≠ gb183) ∧ (Below w.heap.size w w')) ?_ ?_
        rotate_left
        ·intro hCont
         refine two_ (i := 4) (j := 11) (Ni := some 93) (Nj := some 10) #[true, true, true, true, true, false, false, false, false, false, false, false, false, false, false] #[true, true, true, true, false, false, false, false, false, false, false, true, false, false, false] rfl rfl rfl rfl (two_of HT_.out (by kernel_rfl)) (by decide) (by decide) (fun K hK => ?_) (fun K hK => ?_)
         ·skip
          refine Kd.R_lit_step (Kd.int .i64) _ 3 ?hg (N := 93) ?hd (xs := ([8, 0] : List Int)) (inner := [.int .i64 8, .int .i64 0]) (ok := fun _ => True) (okp := fun _ => True) ?hr ?hp (fun _ hk => hk) trivial (Below.refl _ _) (Nat.le_refl _) (by simp) ?_; (case hd => rfl); (case hg => rfl); (case hr => first | (go_simp; done) | (go_simp; rfl)); (case hp => exact (Reps.one (show Kd.M (Kd.int .i64) _ _ _ 8 [.int .i64 8] from rfl) (Reps.one (show Kd.M (Kd.int .i64) _ _ _ 0 [.int .i64 0] from rfl) (Reps.none _ _))))
          intro v190 w81 ho82 hb hg_ hnew_
          have HS2_ := (hb.cell (World.block_lt_of_cell? _ _ (hHeld.2.2))).trans (hHeld.2.2)
          clear hg_ hnew_
          (first | rw [← Ny189.out] at ho82 | (simp only [Int.reduceToNat] at ho82; rw [← Ny189.out] at ho82))
          have n0_ := A_ (Kd.R_elder' (rk_ HO_8.out) (Kd.R_base ho82) hb)
          have n1_ := A_ (Kd.R_below (rk_ HO_184001.out) hb)
          have n2_ := A_ (Kd.R_lower (Kd.R_new' ho82 (Kd.R_lt (rk_ HO_8.out))) (below_size (bk_ HB.out)))
          have n3_ := A_ (blk_below (pk_ BK183.out) hb)
          have n4_ := A_ (below_step (bk_ HB.out) hb)
          clear HO_8 HO_184001 BK183 HB
          have HO_8 := n0_
          have HO_184001 := n1_
          have HO191 := n2_
          have BK183 := n3_
          have HB := n4_
          clear n0_ n1_ n2_ n3_ n4_ hb ho82
          obtain ⟨Ao83, co83, eo83⟩ := Kd.R_slice HO191.out
          (first | subst eo83 | (injection eo83 with f1_ f2_ f3_; have f4_ := f1_.symm; have f5_ := f3_.symm; clear f1_ f2_ f3_; subst f4_; subst f5_))
          refine hK.out _ _ ⟨(blk_cell BK183.out 0).trans rfl, (blk_cell BK183.out 1).trans rfl, HS2_⟩ (fun hHeld => ?_)
          clear hK K
          refine norm_ (a' := ?_) ?_ ?_
          rotate_left
          ·show Act.put _ (some 93) _ = _
           simp only [Act.put, sa_, sz_, ss_, i64_w, i32_w]
           rfl
          refine pure_ (i := 5) (N := some 94) (v := ?_) (a' := ?_) #[true, true, true, true, true, true, false, false, false, false, false, false, false, false, false] rfl rfl (any_of HT_.out (by kernel_rfl)) (fun _ _ _ h => h) (Or.inl ⟨by rfl, ?_⟩) ?_ ?_
          rotate_left
          ·intro w'
           go_simp
           with_reducible rfl
          rotate_left
          ·simp only [Act.put, sa_, sz_, ss_, i64_w, i32_w]
           rfl
          refine two_ (i := 6) (j := 11) (Ni := some 95) (Nj := some 10) #[true, true, true, true, true, true, true, false, false, false, false, false, false, false, false] #[true, true, true, true, true, true, false, false, false, false, false, true, false, false, false] rfl rfl rfl rfl (two_of HT_.out (by kernel_rfl)) (by decide) (by decide) (fun K hK => ?_) (fun K hK => ?_)
          ·skip
           refine goes_ Try.func21 (by kernel_rfl) rfl #[.agg #[.int .i64 t175, .slice Ao18 t176.length co18], .agg #[.int .i64 (rd t179 0), .slice Ao83 y189.length co83], .int .i64 100000] (by rfl) rfl rfl gl_ ?_
           with_reducible refine (standstillref06_Run.calls t175 _ _ t176 (rd t179 0) _ _ y189 100000 t192 t193 t196 true _ ?side1 ?side2 ?side3 ?side4 A56.out).mono ?_
           (case side1 => repeat (first | exact (Kd.R_reads' HO_184001.out).2.2 | (with_reducible refine Kd.C_alloc ?_ _) | (with_reducible refine Kd.C_drewN ?_ _) | (with_reducible refine Kd.C_drew ?_)))
           (case side2 => exact (Kd.R_reads' HO_184001.out).2.1)
           (case side3 => repeat (first | exact (Kd.R_reads' HO191.out).2.2 | (with_reducible refine Kd.C_alloc ?_ _) | (with_reducible refine Kd.C_drewN ?_ _) | (with_reducible refine Kd.C_drew ?_)))
           (case side4 => exact (Kd.R_reads' HO191.out).2.1)
           rintro e w84 ⟨v194, rfl, ho0, hb⟩
           have HS2_ := (hb.cell (World.block_lt_of_cell? _ _ (hHeld.2.2))).trans (hHeld.2.2)
           refine ⟨_, rfl, ?_⟩
           have n0_ := A_ (Kd.R_elder' (rk_ HO_8.out) (Kd.R_base ho0) hb)
           have n1_ := A_ (Kd.R_below (rk_ HO_184001.out) hb)
           have n2_ := A_ (Kd.R_elder' (rk_ HO191.out) (Kd.R_base ho0) hb)
           have n3_ := A_ (Kd.R_lower (Kd.R_new' (Kd.R_new' ho0 (Kd.R_lt (rk_ HO_8.out))) (Kd.R_lt (rk_ HO191.out))) (below_size (bk_ HB.out)))
           have n4_ := A_ (blk_below (pk_ BK183.out) hb)
           have n5_ := A_ (below_step (bk_ HB.out) hb)
           clear HO_8 HO_184001 HO191 BK183 HB
           have HO_8 := n0_
           have HO_184001 := n1_
           have HO191 := n2_
           have HO195 := n3_
           have BK183 := n4_
           have HB := n5_
           clear n0_ n1_ n2_ n3_ n4_ n5_
           (try clear hb)
           (try clear hb2)
           (try clear hk)
           (try clear hi)
           (try clear ho0)
           refine hK.out _ _ ⟨(blk_cell BK183.out 0).trans rfl, (blk_cell BK183.out 1).trans rfl, HS2_⟩ (fun hHeld => ?_)
           clear hK K
           refine norm_ (a' := ?_) ?_ ?_
           rotate_left
           ·show Act.put _ (some 95) _ = _
            simp only [Act.put, sa_, sz_, ss_, i64_w, i32_w]
            rfl
           refine pure_ (i := 7) (N := some 88) (v := ?_) (a' := ?_) #[true, true, true, true, true, true, true, true, false, false, false, false, false, false, false] rfl rfl (any_of HT_.out (by kernel_rfl)) (fun _ _ _ h => h) (Or.inl ⟨by rfl, ?_⟩) ?_ ?_
           rotate_left
           ·intro w'
            go_simp
            with_reducible rfl
           rotate_left
           ·simp only [Act.put, sa_, sz_, ss_, i64_w, i32_w]
            rfl
           refine pure_ (i := 8) (N := some 96) (v := ?_) (a' := ?_) #[true, true, true, true, true, true, true, true, true, false, false, false, false, false, false] rfl rfl (any_of HT_.out (by kernel_rfl)) (fun _ _ _ h => h) (Or.inl ⟨by rfl, ?_⟩) ?_ ?_
           rotate_left
           ·intro w'
            go_simp
            with_reducible rfl
           rotate_left
           ·simp only [Act.put, sa_, sz_, ss_, i64_w, i32_w]
            rfl
           refine pure_ (i := 9) (N := some 97) (v := ?_) (a' := ?_) #[true, true, true, true, true, true, true, true, true, true, false, false, false, false, false] rfl rfl (any_of HT_.out (by kernel_rfl)) (fun _ _ _ h => h) (Or.inl ⟨by rfl, ?_⟩) ?_ ?_
           rotate_left
           ·intro w'
            go_simp
            with_reducible rfl
           rotate_left
           ·simp only [Act.put, sa_, sz_, ss_, i64_w, i32_w]
            rfl
           refine pure_ (i := 10) (N := some 98) (v := ?_) (a' := ?_) #[true, true, true, true, true, true, true, true, true, true, true, false, false, false, false] rfl rfl (any_of HT_.out (by kernel_rfl)) (fun _ _ _ h => h) (Or.inl ⟨by rfl, ?_⟩) ?_ ?_
           rotate_left
           ·intro w'
            go_simp
            with_reducible rfl
           rotate_left
           ·simp only [Act.put, sa_, sz_, ss_, i64_w, i32_w]
            rfl
           refine one_ (i := 11) (N := some 10) #[true, true, true, true, true, true, true, true, true, true, true, true, false, false, false] rfl rfl (one_of HT_.out (by kernel_rfl)) (by decide) (fun K hK => ?_)
           refine box_step ?hg (N := 10) ?hd (cs := #[.int .i64 0, .slice none 0 0]) (t := 47) ?hr ?_; (case hd => rfl); (case hg => rfl); (case hr => first | (go_simp; done) | (go_simp; rfl))
           intro gb198 hg w85 hbox hb
           have HS2_ := (hb.cell (World.block_lt_of_cell? _ _ (hHeld.2.2))).trans (hHeld.2.2)
           have n0_ := A_ (Kd.R_below (rk_ HO_8.out) hb)
           have n1_ := A_ (Kd.R_below (rk_ HO_184001.out) hb)
           have n2_ := A_ (Kd.R_below (rk_ HO191.out) hb)
           have n3_ := A_ (Kd.R_below (rk_ HO195.out) hb)
           have n4_ := A_ (blk_below (pk_ BK183.out) hb)
           have n5_ := A_ (below_step (bk_ HB.out) hb)
           have n6_ := A_ (hbox)
           have n7_ := A_ (bz_ hg (bk_ HB.out))
           have n8_ := A_ (bz_ hg (bk_ HB.out))
           have n9_ := A_ (nl_ hg (pk_ BK183.out))
           have n10_ := A_ (ng_ hg (pk_ BK183.out))
           clear HO_8 HO_184001 HO191 HO195 BK183 HB
           have HO_8 := n0_
           have HO_184001 := n1_
           have HO191 := n2_
           have HO195 := n3_
           have BK183 := n4_
           have HB := n5_
           have BK198 := n6_
           have GW198 := n7_
           have GE198 := n8_
           have NB183_198 := n9_
           have NB198_183 := n10_
           clear n0_ n1_ n2_ n3_ n4_ n5_ n6_ n7_ n8_ n9_ n10_ hb hbox hg
           refine hK.out _ _ ⟨(blk_cell BK183.out 0).trans rfl, (blk_cell BK183.out 1).trans rfl, HS2_⟩ (fun hHeld => ?_)
           clear hK K
           refine norm_ (a' := ?_) ?_ ?_
           rotate_left
           ·show Act.put _ (some 10) _ = _
            simp only [Act.put, sa_, sz_, ss_, i64_w, i32_w]
            rfl
           exact norm_ (by simp only [putAll, Act.put, List.setIfInBounds_toArray, List.set_cons_zero, List.set_cons_succ]) (hCont (.slice Ao83 y189.length co83, v194, gb198) _ ⟨hHeld, (by (with_reducible repeat (first | apply Kd.R_alloc | apply Kd.R_drewN | apply Kd.R_drew)); exact Kd.R_mono HO191.out (fun _ hk => ⟨hk.2, hk.1.2⟩)), (by (with_reducible repeat (first | apply Kd.R_alloc | apply Kd.R_drewN | apply Kd.R_drew)); exact Kd.R_mono HO195.out (fun _ hk => ⟨hk.2, hk.1.2⟩)), (rk_ HO_184001.out), (by (with_reducible repeat (first | apply Kd.R_alloc | apply Kd.R_drewN | apply Kd.R_drew)); exact Kd.R_mono HO_8.out (fun _ hk => ⟨hk.1.2, hk.2⟩)), (pk_ BK183.out), (pk_ BK198.out), GW198.out, GE198.out, NB183_198.out, NB198_183.out, (bk_ HB.out)⟩)
          ·skip
           refine box_step ?hg (N := 10) ?hd (cs := #[.int .i64 0, .slice none 0 0]) (t := 47) ?hr ?_; (case hd => rfl); (case hg => rfl); (case hr => first | (go_simp; done) | (go_simp; rfl))
           intro gb198 hg w84 hbox hb
           have HS2_ := (hb.cell (World.block_lt_of_cell? _ _ (hHeld.2.2))).trans (hHeld.2.2)
           have n0_ := A_ (Kd.R_below (rk_ HO_8.out) hb)
           have n1_ := A_ (Kd.R_below (rk_ HO_184001.out) hb)
           have n2_ := A_ (Kd.R_below (rk_ HO191.out) hb)
           have n3_ := A_ (blk_below (pk_ BK183.out) hb)
           have n4_ := A_ (below_step (bk_ HB.out) hb)
           have n5_ := A_ (hbox)
           have n6_ := A_ (bz_ hg (bk_ HB.out))
           have n7_ := A_ (bz_ hg (bk_ HB.out))
           have n8_ := A_ (nl_ hg (pk_ BK183.out))
           have n9_ := A_ (ng_ hg (pk_ BK183.out))
           clear HO_8 HO_184001 HO191 BK183 HB
           have HO_8 := n0_
           have HO_184001 := n1_
           have HO191 := n2_
           have BK183 := n3_
           have HB := n4_
           have BK198 := n5_
           have GW198 := n6_
           have GE198 := n7_
           have NB183_198 := n8_
           have NB198_183 := n9_
           clear n0_ n1_ n2_ n3_ n4_ n5_ n6_ n7_ n8_ n9_ hb hbox hg
           refine hK.out _ _ ⟨(blk_cell BK183.out 0).trans rfl, (blk_cell BK183.out 1).trans rfl, HS2_⟩ (fun hHeld => ?_)
           clear hK K
           refine norm_ (a' := ?_) ?_ ?_
           rotate_left
           ·show Act.put _ (some 10) _ = _
            simp only [Act.put, sa_, sz_, ss_, i64_w, i32_w]
            rfl
           refine one_ (i := 6) (N := some 95) #[true, true, true, true, true, true, true, false, false, false, false, true, false, false, false] rfl rfl (one_of HT_.out (by kernel_rfl)) (by decide) (fun K hK => ?_)
           refine goes_ Try.func21 (by kernel_rfl) rfl #[.agg #[.int .i64 t175, .slice Ao18 t176.length co18], .agg #[.int .i64 (rd t179 0), .slice Ao83 y189.length co83], .int .i64 100000] (by rfl) rfl rfl gl_ ?_
           with_reducible refine (standstillref06_Run.calls t175 _ _ t176 (rd t179 0) _ _ y189 100000 t192 t193 t196 true _ ?side1 ?side2 ?side3 ?side4 A56.out).mono ?_
           (case side1 => repeat (first | exact (Kd.R_reads' HO_184001.out).2.2 | (with_reducible refine Kd.C_alloc ?_ _) | (with_reducible refine Kd.C_drewN ?_ _) | (with_reducible refine Kd.C_drew ?_)))
           (case side2 => exact (Kd.R_reads' HO_184001.out).2.1)
           (case side3 => repeat (first | exact (Kd.R_reads' HO191.out).2.2 | (with_reducible refine Kd.C_alloc ?_ _) | (with_reducible refine Kd.C_drewN ?_ _) | (with_reducible refine Kd.C_drew ?_)))
           (case side4 => exact (Kd.R_reads' HO191.out).2.1)
           rintro e w85 ⟨v194, rfl, ho0, hb⟩
           have HS2_ := (hb.cell (World.block_lt_of_cell? _ _ (hHeld.2.2))).trans (hHeld.2.2)
           refine ⟨_, rfl, ?_⟩
           have n0_ := A_ (Kd.R_elder' (rk_ HO_8.out) (Kd.R_base ho0) hb)
           have n1_ := A_ (Kd.R_below (rk_ HO_184001.out) hb)
           have n2_ := A_ (Kd.R_elder' (rk_ HO191.out) (Kd.R_base ho0) hb)
           have n3_ := A_ (Kd.R_lower (Kd.R_new' (Kd.R_new' ho0 (Kd.R_lt (rk_ HO_8.out))) (Kd.R_lt (rk_ HO191.out))) (below_size (bk_ HB.out)))
           have n4_ := A_ (blk_below (pk_ BK183.out) hb)
           have n5_ := A_ (blk_below (pk_ BK198.out) hb)
           have n6_ := A_ (below_step (bk_ HB.out) hb)
           clear HO_8 HO_184001 HO191 BK183 BK198 HB
           have HO_8 := n0_
           have HO_184001 := n1_
           have HO191 := n2_
           have HO195 := n3_
           have BK183 := n4_
           have BK198 := n5_
           have HB := n6_
           clear n0_ n1_ n2_ n3_ n4_ n5_ n6_
           (try clear hb)
           (try clear hb2)
           (try clear hk)
           (try clear hi)
           (try clear ho0)
           refine hK.out _ _ ⟨(blk_cell BK183.out 0).trans rfl, (blk_cell BK183.out 1).trans rfl, HS2_⟩ (fun hHeld => ?_)
           clear hK K
           refine norm_ (a' := ?_) ?_ ?_
           rotate_left
           ·show Act.put _ (some 95) _ = _
            simp only [Act.put, sa_, sz_, ss_, i64_w, i32_w]
            rfl
           refine pure_ (i := 7) (N := some 88) (v := ?_) (a' := ?_) #[true, true, true, true, true, true, true, true, false, false, false, true, false, false, false] rfl rfl (any_of HT_.out (by kernel_rfl)) (fun _ _ _ h => h) (Or.inl ⟨by rfl, ?_⟩) ?_ ?_
           rotate_left
           ·intro w'
            go_simp
            with_reducible rfl
           rotate_left
           ·simp only [Act.put, sa_, sz_, ss_, i64_w, i32_w]
            rfl
           refine pure_ (i := 8) (N := some 96) (v := ?_) (a' := ?_) #[true, true, true, true, true, true, true, true, true, false, false, true, false, false, false] rfl rfl (any_of HT_.out (by kernel_rfl)) (fun _ _ _ h => h) (Or.inl ⟨by rfl, ?_⟩) ?_ ?_
           rotate_left
           ·intro w'
            go_simp
            with_reducible rfl
           rotate_left
           ·simp only [Act.put, sa_, sz_, ss_, i64_w, i32_w]
            rfl
           refine pure_ (i := 9) (N := some 97) (v := ?_) (a' := ?_) #[true, true, true, true, true, true, true, true, true, true, false, true, false, false, false] rfl rfl (any_of HT_.out (by kernel_rfl)) (fun _ _ _ h => h) (Or.inl ⟨by rfl, ?_⟩) ?_ ?_
           rotate_left
           ·intro w'
            go_simp
            with_reducible rfl
           rotate_left
           ·simp only [Act.put, sa_, sz_, ss_, i64_w, i32_w]
            rfl
           refine pure_ (i := 10) (N := some 98) (v := ?_) (a' := ?_) #[true, true, true, true, true, true, true, true, true, true, true, true, false, false, false] rfl rfl (any_of HT_.out (by kernel_rfl)) (fun _ _ _ h => h) (Or.inl ⟨by rfl, ?_⟩) ?_ ?_
           rotate_left
           ·intro w'
            go_simp
            with_reducible rfl
           rotate_left
           ·simp only [Act.put, sa_, sz_, ss_, i64_w, i32_w]
            rfl
           exact norm_ (by simp only [putAll, Act.put, List.setIfInBounds_toArray, List.set_cons_zero, List.set_cons_succ]) (hCont (.slice Ao83 y189.length co83, v194, gb198) _ ⟨hHeld, (by (with_reducible repeat (first | apply Kd.R_alloc | apply Kd.R_drewN | apply Kd.R_drew)); exact Kd.R_mono HO191.out (fun _ hk => ⟨hk.2, hk.1.2⟩)), (by (with_reducible repeat (first | apply Kd.R_alloc | apply Kd.R_drewN | apply Kd.R_drew)); exact Kd.R_mono HO195.out (fun _ hk => ⟨hk.2, hk.1.2⟩)), (rk_ HO_184001.out), (by (with_reducible repeat (first | apply Kd.R_alloc | apply Kd.R_drewN | apply Kd.R_drew)); exact Kd.R_mono HO_8.out (fun _ hk => ⟨hk.1.2, hk.2⟩)), (pk_ BK183.out), (pk_ BK198.out), GW198.out, GE198.out, NB183_198.out, NB198_183.out, (bk_ HB.out)⟩)
         ·skip
          refine box_step ?hg (N := 10) ?hd (cs := #[.int .i64 0, .slice none 0 0]) (t := 47) ?hr ?_; (case hd => rfl); (case hg => rfl); (case hr => first | (go_simp; done) | (go_simp; rfl))
          intro gb198 hg w81 hbox hb
          have HS2_ := (hb.cell (World.block_lt_of_cell? _ _ (hHeld.2.2))).trans (hHeld.2.2)
          have n0_ := A_ (Kd.R_below (rk_ HO_8.out) hb)
          have n1_ := A_ (Kd.R_below (rk_ HO_184001.out) hb)
          have n2_ := A_ (blk_below (pk_ BK183.out) hb)
          have n3_ := A_ (below_step (bk_ HB.out) hb)
          have n4_ := A_ (hbox)
          have n5_ := A_ (bz_ hg (bk_ HB.out))
          have n6_ := A_ (bz_ hg (bk_ HB.out))
          have n7_ := A_ (nl_ hg (pk_ BK183.out))
          have n8_ := A_ (ng_ hg (pk_ BK183.out))
          clear HO_8 HO_184001 BK183 HB
          have HO_8 := n0_
          have HO_184001 := n1_
          have BK183 := n2_
          have HB := n3_
          have BK198 := n4_
          have GW198 := n5_
          have GE198 := n6_
          have NB183_198 := n7_
          have NB198_183 := n8_
          clear n0_ n1_ n2_ n3_ n4_ n5_ n6_ n7_ n8_ hb hbox hg
          refine hK.out _ _ ⟨(blk_cell BK183.out 0).trans rfl, (blk_cell BK183.out 1).trans rfl, HS2_⟩ (fun hHeld => ?_)
          clear hK K
          refine norm_ (a' := ?_) ?_ ?_
          rotate_left
          ·show Act.put _ (some 10) _ = _
           simp only [Act.put, sa_, sz_, ss_, i64_w, i32_w]
           rfl
          refine one_ (i := 4) (N := some 93) #[true, true, true, true, true, false, false, false, false, false, false, true, false, false, false] rfl rfl (one_of HT_.out (by kernel_rfl)) (by decide) (fun K hK => ?_)
          refine Kd.R_lit_step (Kd.int .i64) _ 3 ?hg (N := 93) ?hd (xs := ([8, 0] : List Int)) (inner := [.int .i64 8, .int .i64 0]) (ok := fun _ => True) (okp := fun _ => True) ?hr ?hp (fun _ hk => hk) trivial (Below.refl _ _) (Nat.le_refl _) (by simp) ?_; (case hd => rfl); (case hg => rfl); (case hr => first | (go_simp; done) | (go_simp; rfl)); (case hp => exact (Reps.one (show Kd.M (Kd.int .i64) _ _ _ 8 [.int .i64 8] from rfl) (Reps.one (show Kd.M (Kd.int .i64) _ _ _ 0 [.int .i64 0] from rfl) (Reps.none _ _))))
          intro v190 w82 ho83 hb hg_ hnew_
          have HS2_ := (hb.cell (World.block_lt_of_cell? _ _ (hHeld.2.2))).trans (hHeld.2.2)
          clear hg_ hnew_
          (first | rw [← Ny189.out] at ho83 | (simp only [Int.reduceToNat] at ho83; rw [← Ny189.out] at ho83))
          have n0_ := A_ (Kd.R_elder' (rk_ HO_8.out) (Kd.R_base ho83) hb)
          have n1_ := A_ (Kd.R_below (rk_ HO_184001.out) hb)
          have n2_ := A_ (Kd.R_lower (Kd.R_new' ho83 (Kd.R_lt (rk_ HO_8.out))) (below_size (bk_ HB.out)))
          have n3_ := A_ (blk_below (pk_ BK183.out) hb)
          have n4_ := A_ (blk_below (pk_ BK198.out) hb)
          have n5_ := A_ (below_step (bk_ HB.out) hb)
          clear HO_8 HO_184001 BK183 BK198 HB
          have HO_8 := n0_
          have HO_184001 := n1_
          have HO191 := n2_
          have BK183 := n3_
          have BK198 := n4_
          have HB := n5_
          clear n0_ n1_ n2_ n3_ n4_ n5_ hb ho83
          obtain ⟨Ao84, co84, eo84⟩ := Kd.R_slice HO191.out
          (first | subst eo84 | (injection eo84 with f1_ f2_ f3_; have f4_ := f1_.symm; have f5_ := f3_.symm; clear f1_ f2_ f3_; subst f4_; subst f5_))
          refine hK.out _ _ ⟨(blk_cell BK183.out 0).trans rfl, (blk_cell BK183.out 1).trans rfl, HS2_⟩ (fun hHeld => ?_)
          clear hK K
          refine norm_ (a' := ?_) ?_ ?_
          rotate_left
          ·show Act.put _ (some 93) _ = _
           simp only [Act.put, sa_, sz_, ss_, i64_w, i32_w]
           rfl
          refine pure_ (i := 5) (N := some 94) (v := ?_) (a' := ?_) #[true, true, true, true, true, true, false, false, false, false, false, true, false, false, false] rfl rfl (any_of HT_.out (by kernel_rfl)) (fun _ _ _ h => h) (Or.inl ⟨by rfl, ?_⟩) ?_ ?_
          rotate_left
          ·intro w'
           go_simp
           with_reducible rfl
          rotate_left
          ·simp only [Act.put, sa_, sz_, ss_, i64_w, i32_w]
           rfl
          refine one_ (i := 6) (N := some 95) #[true, true, true, true, true, true, true, false, false, false, false, true, false, false, false] rfl rfl (one_of HT_.out (by kernel_rfl)) (by decide) (fun K hK => ?_)
          refine goes_ Try.func21 (by kernel_rfl) rfl #[.agg #[.int .i64 t175, .slice Ao18 t176.length co18], .agg #[.int .i64 (rd t179 0), .slice Ao84 y189.length co84], .int .i64 100000] (by rfl) rfl rfl gl_ ?_
          with_reducible refine (standstillref06_Run.calls t175 _ _ t176 (rd t179 0) _ _ y189 100000 t192 t193 t196 true _ ?side1 ?side2 ?side3 ?side4 A56.out).mono ?_
          (case side1 => repeat (first | exact (Kd.R_reads' HO_184001.out).2.2 | (with_reducible refine Kd.C_alloc ?_ _) | (with_reducible refine Kd.C_drewN ?_ _) | (with_reducible refine Kd.C_drew ?_)))
          (case side2 => exact (Kd.R_reads' HO_184001.out).2.1)
          (case side3 => repeat (first | exact (Kd.R_reads' HO191.out).2.2 | (with_reducible refine Kd.C_alloc ?_ _) | (with_reducible refine Kd.C_drewN ?_ _) | (with_reducible refine Kd.C_drew ?_)))
          (case side4 => exact (Kd.R_reads' HO191.out).2.1)
          rintro e w85 ⟨v194, rfl, ho0, hb⟩
          have HS2_ := (hb.cell (World.block_lt_of_cell? _ _ (hHeld.2.2))).trans (hHeld.2.2)
          refine ⟨_, rfl, ?_⟩
          have n0_ := A_ (Kd.R_elder' (rk_ HO_8.out) (Kd.R_base ho0) hb)
          have n1_ := A_ (Kd.R_below (rk_ HO_184001.out) hb)
          have n2_ := A_ (Kd.R_elder' (rk_ HO191.out) (Kd.R_base ho0) hb)
          have n3_ := A_ (Kd.R_lower (Kd.R_new' (Kd.R_new' ho0 (Kd.R_lt (rk_ HO_8.out))) (Kd.R_lt (rk_ HO191.out))) (below_size (bk_ HB.out)))
          have n4_ := A_ (blk_below (pk_ BK183.out) hb)
          have n5_ := A_ (blk_below (pk_ BK198.out) hb)
          have n6_ := A_ (below_step (bk_ HB.out) hb)
          clear HO_8 HO_184001 HO191 BK183 BK198 HB
          have HO_8 := n0_
          have HO_184001 := n1_
          have HO191 := n2_
          have HO195 := n3_
          have BK183 := n4_
          have BK198 := n5_
          have HB := n6_
          clear n0_ n1_ n2_ n3_ n4_ n5_ n6_
          (try clear hb)
          (try clear hb2)
          (try clear hk)
          (try clear hi)
          (try clear ho0)
          refine hK.out _ _ ⟨(blk_cell BK183.out 0).trans rfl, (blk_cell BK183.out 1).trans rfl, HS2_⟩ (fun hHeld => ?_)
          clear hK K
          refine norm_ (a' := ?_) ?_ ?_
          rotate_left
          ·show Act.put _ (some 95) _ = _
           simp only [Act.put, sa_, sz_, ss_, i64_w, i32_w]
           rfl
          refine pure_ (i := 7) (N := some 88) (v := ?_) (a' := ?_) #[true, true, true, true, true, true, true, true, false, false, false, true, false, false, false] rfl rfl (any_of HT_.out (by kernel_rfl)) (fun _ _ _ h => h) (Or.inl ⟨by rfl, ?_⟩) ?_ ?_
          rotate_left
          ·intro w'
           go_simp
           with_reducible rfl
          rotate_left
          ·simp only [Act.put, sa_, sz_, ss_, i64_w, i32_w]
           rfl
          refine pure_ (i := 8) (N := some 96) (v := ?_) (a' := ?_) #[true, true, true, true, true, true, true, true, true, false, false, true, false, false, false] rfl rfl (any_of HT_.out (by kernel_rfl)) (fun _ _ _ h => h) (Or.inl ⟨by rfl, ?_⟩) ?_ ?_
          rotate_left
          ·intro w'
           go_simp
           with_reducible rfl
          rotate_left
          ·simp only [Act.put, sa_, sz_, ss_, i64_w, i32_w]
           rfl
          refine pure_ (i := 9) (N := some 97) (v := ?_) (a' := ?_) #[true, true, true, true, true, true, true, true, true, true, false, true, false, false, false] rfl rfl (any_of HT_.out (by kernel_rfl)) (fun _ _ _ h => h) (Or.inl ⟨by rfl, ?_⟩) ?_ ?_
          rotate_left
          ·intro w'
           go_simp
           with_reducible rfl
          rotate_left
          ·simp only [Act.put, sa_, sz_, ss_, i64_w, i32_w]
           rfl
          refine pure_ (i := 10) (N := some 98) (v := ?_) (a' := ?_) #[true, true, true, true, true, true, true, true, true, true, true, true, false, false, false] rfl rfl (any_of HT_.out (by kernel_rfl)) (fun _ _ _ h => h) (Or.inl ⟨by rfl, ?_⟩) ?_ ?_
          rotate_left
          ·intro w'
           go_simp
           with_reducible rfl
          rotate_left
          ·simp only [Act.put, sa_, sz_, ss_, i64_w, i32_w]
           rfl
          exact norm_ (by simp only [putAll, Act.put, List.setIfInBounds_toArray, List.set_cons_zero, List.set_cons_succ]) (hCont (.slice Ao84 y189.length co84, v194, gb198) _ ⟨hHeld, (by (with_reducible repeat (first | apply Kd.R_alloc | apply Kd.R_drewN | apply Kd.R_drew)); exact Kd.R_mono HO191.out (fun _ hk => ⟨hk.2, hk.1.2⟩)), (by (with_reducible repeat (first | apply Kd.R_alloc | apply Kd.R_drewN | apply Kd.R_drew)); exact Kd.R_mono HO195.out (fun _ hk => ⟨hk.2, hk.1.2⟩)), (rk_ HO_184001.out), (by (with_reducible repeat (first | apply Kd.R_alloc | apply Kd.R_drewN | apply Kd.R_drew)); exact Kd.R_mono HO_8.out (fun _ hk => ⟨hk.1.2, hk.2⟩)), (pk_ BK183.out), (pk_ BK198.out), GW198.out, GE198.out, NB183_198.out, NB198_183.out, (bk_ HB.out)⟩)
        rintro ⟨v190, v194, gb198⟩ w86 ⟨hS_, h0_, h1_, h2_, h3_, h4_, h5_, h6_, h7_, h8_, h9_, h10_⟩
        have n0_ : Aside0 (Kd.R (Kd.int .i64) 3 w86 w.heap.size (fun k_ => some k_ ≠ (v194 : Value).ownBlock ∧ some k_ ≠ (.slice (some ad188) t179.length co80 : Value).ownBlock) v190 y189) := ⟨h0_⟩
        have n1_ : Aside0 (Kd.R (Kd.int .i64) 3 w86 w.heap.size (fun k_ => some k_ ≠ (v190 : Value).ownBlock ∧ some k_ ≠ (.slice (some ad188) t179.length co80 : Value).ownBlock) v194 t193) := ⟨h1_⟩
        have n2_ : Aside0 (Kd.R k45 45 w86 w.heap.size (fun _ => True) (.slice Ao18 t176.length co18) t176) := ⟨h2_⟩
        have n3_ : Aside0 (Kd.R (Kd.int .i64) 3 w86 w.heap.size (fun k_ => some k_ ≠ (v190 : Value).ownBlock ∧ some k_ ≠ (v194 : Value).ownBlock) (.slice (some ad188) t179.length co80) t179) := ⟨h3_⟩
        have n4_ : Aside0 (w86.heap[gb183]? = some (.cells #[.int .i64 t175, .slice Ao18 t176.length co18] 38 (0, 0))) := ⟨h4_⟩
        have n5_ : Aside0 (w86.heap[gb198]? = some (.cells #[.int .i64 0, .slice none 0 0] 47 (0, 0))) := ⟨h5_⟩
        have n6_ : Aside0 (w.heap.size ≤ gb198) := ⟨h6_⟩
        have n7_ : Aside0 (w.heap.size ≤ gb198) := ⟨h7_⟩
        have n8_ : Aside0 (gb183 ≠ gb198) := ⟨h8_⟩
        have n9_ : Aside0 (gb198 ≠ gb183) := ⟨h9_⟩
        have n10_ : Aside0 (Below w.heap.size w w86) := ⟨h10_⟩
        clear HO_8 HO_184001 BK183 HB h0_ h1_ h2_ h3_ h4_ h5_ h6_ h7_ h8_ h9_ h10_
        have HO191 := n0_
        have HO195 := n1_
        have HO_184001 := n2_
        have HO_8 := n3_
        have BK183 := n4_
        have BK198 := n5_
        have GW198 := n6_
        have GE198 := n7_
        have NB183_198 := n8_
        have NB198_183 := n9_
        have HB := n10_
        clear n0_ n1_ n2_ n3_ n4_ n5_ n6_ n7_ n8_ n9_ n10_
        have hHeld : w86.cell? ⟨gb183, 0, none⟩ = some (.int .i64 t175) ∧ w86.cell? ⟨gb183, 1, none⟩ = some (.slice Ao18 t176.length co18) ∧ w86.cell? ad188 = some (.int .i64 (rd t179 0)) := hS_
        obtain ⟨Ao87, co87, eo87⟩ := Kd.R_slice HO191.out
        (first | subst eo87 | (injection eo87 with f1_ f2_ f3_; have f4_ := f1_.symm; have f5_ := f3_.symm; clear f1_ f2_ f3_; subst f4_; subst f5_))
        obtain ⟨Ao89, co89, eo89⟩ := Kd.R_slice HO195.out
        (first | subst eo89 | (injection eo89 with f1_ f2_ f3_; have f4_ := f1_.symm; have f5_ := f3_.symm; clear f1_ f2_ f3_; subst f4_; subst f5_))
        refine norm_ (a' := ?_) ?_ ?_
        rotate_left
        ·simp only [putAll, Act.put, List.setIfInBounds_toArray, List.set_cons_zero, List.set_cons_succ]
         rfl
        refine one_ (i := 12) (N := none) #[true, true, true, true, true, true, true, true, true, true, true, true, true, false, false] rfl rfl (one_of HT_.out (by kernel_rfl)) (by decide) (fun K hK => ?_)
        have hs88 : w86.cell? ⟨gb198, 0, none⟩ = some (.int .i64 0) := (blk_cell BK198.out 0).trans rfl
        have hfs88 := blk_frozen BK198.out 0
        have hns88_0 := NB183_198.out
        have hms88_0 := NB198_183.out
        have hs90 : w86.cell? ⟨gb198, 1, none⟩ = some (.slice none 0 0) := (blk_cell BK198.out 1).trans rfl
        have hfs90 := blk_frozen BK198.out 1
        have hns90_0 := NB183_198.out
        have hms90_0 := NB198_183.out
        refine skip_ (w1 := ?_) (by rfl) rfl ?_ ?_
        rotate_left
        ·go_simp
         rfl
        refine hK.out _ _ ⟨(cf2_ NB183_198.out hHeld.1), (cf2_ NB183_198.out hHeld.2.1), ((cell_far (p := ⟨gb198, _, none⟩) (by first | exact Kd.own_blk (Kd.R_ne HO_8.out BK198.out (by decide)) | (rw [add_block]; exact Kd.own_blk (Kd.R_ne HO_8.out BK198.out (by decide))) | (show (Addr.add _ _).block ≠ _; rw [add_block]; exact Kd.own_blk (Kd.R_ne HO_8.out BK198.out (by decide))) | (dsimp only; exact Kd.own_blk (Kd.R_ne HO_8.out BK198.out (by decide)))) _).trans (((cell_far (p := ⟨gb198, _, none⟩) (by first | exact Kd.own_blk (Kd.R_ne HO_8.out BK198.out (by decide)) | (rw [add_block]; exact Kd.own_blk (Kd.R_ne HO_8.out BK198.out (by decide))) | (show (Addr.add _ _).block ≠ _; rw [add_block]; exact Kd.own_blk (Kd.R_ne HO_8.out BK198.out (by decide))) | (dsimp only; exact Kd.own_blk (Kd.R_ne HO_8.out BK198.out (by decide)))) _).trans (hHeld.2.2))))⟩ (fun hHeld => ?_)
        clear hK K
        refine pure_ (i := 13) (N := some 11) (v := ?_) (a' := ?_) #[true, true, true, true, true, true, true, true, true, true, true, true, true, true, false] rfl rfl (any_of HT_.out (by kernel_rfl)) (fun _ _ _ h => h) (Or.inl ⟨by rfl, ?_⟩) ?_ ?_
        rotate_left
        ·intro w'
         go_simp
         with_reducible rfl
        rotate_left
        ·simp only [Act.put, sa_, sz_, ss_, i64_w, i32_w]
         rfl
        refine pure_ (i := 14) (N := some 12) (v := ?_) (a' := ?_) #[true, true, true, true, true, true, true, true, true, true, true, true, true, true, true] rfl rfl (any_of HT_.out (by kernel_rfl)) (fun _ _ _ h => h) (Or.inl ⟨by rfl, ?_⟩) ?_ ?_
        rotate_left
        ·intro w'
         go_simp
         with_reducible rfl
        rotate_left
        ·simp only [Act.put, sa_, sz_, ss_, i64_w, i32_w]
         rfl
        refine done_ (done_of HT_.out (by kernel_rfl)) ?_
        try go_wp2
        have n0_ : Aside0 (Kd.R (Kd.int .i64) 3 ((w86.setCell ⟨gb198, 0, none⟩ (.int .i64 t192)).setCell ⟨gb198, 1, none⟩ (.slice Ao89 t193.length co89)) w.heap.size (fun k_ => some k_ ≠ (.slice Ao87 y189.length co87 : Value).ownBlock ∧ some k_ ≠ (.slice Ao89 t193.length co89 : Value).ownBlock) (.slice (some ad188) t179.length co80) t179) := ⟨by (with_reducible repeat (first | apply Kd.R_alloc | apply Kd.R_drewN | apply Kd.R_drew)); exact Kd.R_mono (rf2_ (Kd.R_types HO_8.out BK198.out (by decide))) (fun _ hk => ⟨hk.1.1, hk.1.2⟩)⟩
        have n1_ : Aside0 (Kd.R k45 45 ((w86.setCell ⟨gb198, 0, none⟩ (.int .i64 t192)).setCell ⟨gb198, 1, none⟩ (.slice Ao89 t193.length co89)) w.heap.size (fun _ => True) (.slice Ao18 t176.length co18) t176) := ⟨by (with_reducible repeat (first | apply Kd.R_alloc | apply Kd.R_drewN | apply Kd.R_drew)); exact Kd.R_mono (rf2_ (Kd.R_types HO_184001.out BK198.out (by decide))) (fun _ hk => trivial)⟩
        have n2_ : Aside0 (Kd.R (Kd.int .i64) 3 ((w86.setCell ⟨gb198, 0, none⟩ (.int .i64 t192)).setCell ⟨gb198, 1, none⟩ (.slice Ao89 t193.length co89)) w.heap.size (fun k_ => some k_ ≠ (.slice (some ad188) t179.length co80 : Value).ownBlock ∧ some k_ ≠ (.slice Ao89 t193.length co89 : Value).ownBlock) (.slice Ao87 y189.length co87) y189) := ⟨by (with_reducible repeat (first | apply Kd.R_alloc | apply Kd.R_drewN | apply Kd.R_drew)); exact Kd.R_mono (rf2_ (Kd.R_types HO191.out BK198.out (by decide))) (fun _ hk => ⟨hk.1.2, hk.1.1⟩)⟩
        have n3_ : Aside0 (Kd.R (Kd.int .i64) 3 ((w86.setCell ⟨gb198, 0, none⟩ (.int .i64 t192)).setCell ⟨gb198, 1, none⟩ (.slice Ao89 t193.length co89)) w.heap.size (fun k_ => some k_ ≠ (.slice (some ad188) t179.length co80 : Value).ownBlock ∧ some k_ ≠ (.slice Ao87 y189.length co87 : Value).ownBlock) (.slice Ao89 t193.length co89) t193) := ⟨by (with_reducible repeat (first | apply Kd.R_alloc | apply Kd.R_drewN | apply Kd.R_drew)); exact Kd.R_mono (rf2_ (Kd.R_types HO195.out BK198.out (by decide))) (fun _ hk => ⟨hk.1.2, hk.1.1⟩)⟩
        have n4_ : Aside0 (((w86.setCell ⟨gb198, 0, none⟩ (.int .i64 t192)).setCell ⟨gb198, 1, none⟩ (.slice Ao89 t193.length co89)).heap[gb183]? = some (.cells #[.int .i64 t175, .slice Ao18 t176.length co18] 38 (0, 0))) := ⟨by (iterate 2 (refine pk_ ?_; refine blk_far ?_ NB183_198.out _)); exact pk_ BK183.out⟩
        have n5_ : Aside0 (((w86.setCell ⟨gb198, 0, none⟩ (.int .i64 t192)).setCell ⟨gb198, 1, none⟩ (.slice Ao89 t193.length co89)).heap[gb198]? = some (.cells #[.int .i64 t192, .slice Ao89 t193.length co89] 47 (0, 0))) := ⟨by refine pk_ ?_; refine blk_put (cs := #[.int .i64 t192, .slice none 0 0]) ?_ 1 _ rfl; refine pk_ ?_; refine blk_put (cs := #[.int .i64 0, .slice none 0 0]) ?_ 0 _ rfl; exact pk_ BK198.out⟩
        have n6_ : Aside0 (Below w.heap.size w ((w86.setCell ⟨gb198, 0, none⟩ (.int .i64 t192)).setCell ⟨gb198, 1, none⟩ (.slice Ao89 t193.length co89))) := ⟨bk_ HB.out⟩
        (try clear HO_8)
        (try clear HO_184001)
        (try clear HO191)
        (try clear HO195)
        (try clear BK183)
        (try clear BK198)
        (try clear HB)
        generalize ((w86.setCell ⟨gb198, 0, none⟩ (.int .i64 t192)).setCell ⟨gb198, 1, none⟩ (.slice Ao89 t193.length co89)) = w91 at n0_ n1_ n2_ n3_ n4_ n5_ n6_ ⊢
        have HO_8 := n0_
        have HO_184001 := n1_
        have HO191 := n2_
        have HO195 := n3_
        have BK183 := n4_
        have BK198 := n5_
        have HB := n6_
        clear n0_ n1_ n2_ n3_ n4_ n5_ n6_
        have n0_ := A_ (Kd.R_drew HO_8.out)
        have n1_ := A_ (Kd.R_drew HO_184001.out)
        have n2_ := A_ (Kd.R_drew HO191.out)
        have n3_ := A_ (Kd.R_drew HO195.out)
        have n4_ := A_ (blk_drew BK183.out)
        have n5_ := A_ (blk_drew BK198.out)
        have n6_ := A_ (below_drew1 HB.out)
        clear HO_8 HO_184001 HO191 HO195 BK183 BK198 HB
        have HO_8 := n0_
        have HO_184001 := n1_
        have HO191 := n2_
        have HO195 := n3_
        have BK183 := n4_
        have BK198 := n5_
        have HB := n6_
        clear n0_ n1_ n2_ n3_ n4_ n5_ n6_
        have p199 : 0 ≤ (2 : Int) := (by omega)
        have q199 : 2 < (t179.length : Int) := od_
        obtain ⟨ad199, e199, hx199_0⟩ := Kd.at_int (Kd.R_reads' HO_8.out).2.2 2 p199 q199
        obtain rfl : ad188 = ad199 := (by injection e199)
        (try simp only [show (2 : Int).toNat = 2 from rfl, Nat.reduceMul, Nat.reduceEqDiff, Go.Addr.add, ↓reduceIte] at hx199_0)
        have qi199 : (2 < t179.length) = True := eq_true (by omega)
        (try rw [show ((2 : Int)).toNat = 2 from rfl] at hx199_0)
        replace p199 := eq_true p199
        replace q199 := eq_true q199
        refine start_ (n := 19) (S := fun w' => w'.cell? ⟨gb198, 0, none⟩ = some (.int .i64 t192) ∧ w'.cell? ⟨gb198, 1, none⟩ = some (.slice Ao89 t193.length co89) ∧ w'.cell? ⟨ad188.block, ad188.off + 2, none⟩ = some (.int .i64 (rd t179 2))) (ds := []) #[false, false, false, false, false, false, false, false, false, false, false, false, false, false, false, false, false, false, false] (by kernel_rfl) rfl rfl ⟨(blk_cell BK198.out 0).trans rfl, (blk_cell BK198.out 1).trans rfl, hx199_0⟩ (fun hHeld => ?_); refine with_tabW standstilllaw08_awake.tab8 standstilllaw08_awake.bits8 (fun HT_ HW_ => ?_)
        generalize w91.drew = w92 at HO_8 HO_184001 HO191 HO195 BK183 BK198 HB hx199_0 hHeld ⊢
        refine pure_ (i := 0) (N := some 99) (v := ?_) (a' := ?_) #[true, false, false, false, false, false, false, false, false, false, false, false, false, false, false, false, false, false, false] rfl rfl (any_of HT_.out (by kernel_rfl)) (fun _ _ _ h => h) (Or.inl ⟨by rfl, ?_⟩) ?_ ?_
        rotate_left
        ·intro w'
         go_simp
         with_reducible rfl
        rotate_left
        ·simp only [Act.put, sa_, sz_, ss_, i64_w, i32_w]
         rfl
        refine pure_ (i := 1) (N := some 100) (v := ?_) (a' := ?_) #[true, true, false, false, false, false, false, false, false, false, false, false, false, false, false, false, false, false, false] rfl rfl (any_of HT_.out (by kernel_rfl)) (fun _ _ _ h => h) (Or.inl ⟨by rfl, ?_⟩) ?_ ?_
        rotate_left
        ·intro w'
         go_simp
         with_reducible rfl
        rotate_left
        ·simp only [Act.put, sa_, sz_, ss_, i64_w, i32_w]
         rfl
        refine pure_ (i := 2) (N := some 101) (v := ?_) (a' := ?_) #[true, true, true, false, false, false, false, false, false, false, false, false, false, false, false, false, false, false, false] rfl rfl (any_of HT_.out (by kernel_rfl)) (fun _ _ _ h => h) (Or.inl ⟨by rfl, ?_⟩) ?_ ?_
        rotate_left
        ·intro w'
         go_simp
         with_reducible rfl
        rotate_left
        ·simp only [Act.put, sa_, sz_, ss_, i64_w, i32_w]
         rfl
        refine pure_ (i := 4) (N := some 103) (v := ?_) (a' := ?_) #[true, true, true, false, true, false, false, false, false, false, false, false, false, false, false, false, false, false, false] rfl rfl (any_of HT_.out (by kernel_rfl)) (fun _ _ _ h => h) (Or.inl ⟨by rfl, ?_⟩) ?_ ?_
        rotate_left
        ·intro w'
         go_simp
         with_reducible rfl
        rotate_left
        ·simp only [Act.put, sa_, sz_, ss_, i64_w, i32_w]
         rfl
        refine pure_ (i := 5) (N := some 104) (v := ?_) (a' := ?_) #[true, true, true, false, true, true, false, false, false, false, false, false, false, false, false, false, false, false, false] rfl rfl (any_of HT_.out (by kernel_rfl)) (fun _ _ _ h => h) (Or.inl ⟨by rfl, ?_⟩) ?_ ?_
        rotate_left
        ·intro w'
         go_simp
         with_reducible rfl
        rotate_left
        ·simp only [Act.put, sa_, sz_, ss_, i64_w, i32_w]
         rfl
        refine take_ (i := 3) (N := some 102) (v := ?_) (a' := ?_) #[true, true, true, true, true, true, false, false, false, false, false, false, false, false, false, false, false, false, false] rfl rfl (take_ofW HT_.out HW_.out (by kernel_rfl)) (fun _ _ _ h => h) (Or.inl ⟨by rfl, ?_⟩) hHeld ?_ ?_
        rotate_left
        ·rintro w' ⟨s0, s1, s2⟩
         go_simp
         with_reducible rfl
        rotate_left
        ·simp only [Act.put, sa_, sz_, ss_, i64_w, i32_w]
         rfl
        refine take_ (i := 6) (N := some 105) (v := ?_) (a' := ?_) #[true, true, true, true, true, true, true, false, false, false, false, false, false, false, false, false, false, false, false] rfl rfl (take_ofW HT_.out HW_.out (by kernel_rfl)) (fun _ _ _ h => h) (Or.inl ⟨by rfl, ?_⟩) hHeld ?_ ?_
        rotate_left
        ·rintro w' ⟨s0, s1, s2⟩
         go_simp
         with_reducible rfl
        rotate_left
        ·simp only [Act.put, sa_, sz_, ss_, i64_w, i32_w]
         rfl
        refine pure_ (i := 7) (N := some 106) (v := ?_) (a' := ?_) #[true, true, true, true, true, true, true, true, false, false, false, false, false, false, false, false, false, false, false] rfl rfl (any_of HT_.out (by kernel_rfl)) (fun _ _ _ h => h) (Or.inl ⟨by rfl, ?_⟩) ?_ ?_
        rotate_left
        ·intro w'
         go_simp
         with_reducible rfl
        rotate_left
        ·simp only [Act.put, sa_, sz_, ss_, i64_w, i32_w]
         rfl
        refine pure_ (i := 8) (N := some 107) (v := ?_) (a' := ?_) #[true, true, true, true, true, true, true, true, true, false, false, false, false, false, false, false, false, false, false] rfl rfl (any_of HT_.out (by kernel_rfl)) (fun _ _ _ h => h) (Or.inl ⟨by rfl, ?_⟩) ?_ ?_
        rotate_left
        ·intro w'
         go_simp
         with_reducible rfl
        rotate_left
        ·simp only [Act.put, sa_, sz_, ss_, i64_w, i32_w]
         rfl
        refine pure_ (i := 9) (N := some 108) (v := ?_) (a' := ?_) #[true, true, true, true, true, true, true, true, true, true, false, false, false, false, false, false, false, false, false] rfl rfl (any_of HT_.out (by kernel_rfl)) (fun _ _ _ h => h) (Or.inl ⟨by rfl, ?_⟩) ?_ ?_
        rotate_left
        ·intro w'
         go_simp
         with_reducible rfl
        rotate_left
        ·simp only [Act.put, sa_, sz_, ss_, i64_w, i32_w]
         rfl
        refine pure_ (i := 10) (N := some 109) (v := undef) (a' := ?_) #[true, true, true, true, true, true, true, true, true, true, true, false, false, false, false, false, false, false, false] rfl rfl (any_of HT_.out (by kernel_rfl)) (fun _ _ _ h => h) (Or.inr ⟨by rfl, rfl⟩) ?_ ?_
        rotate_left
        ·simp only [Act.put, sa_, sz_, ss_, i64_w, i32_w]
         rfl
        refine pure_ (i := 11) (N := some 110) (v := undef) (a' := ?_) #[true, true, true, true, true, true, true, true, true, true, true, true, false, false, false, false, false, false, false] rfl rfl (any_of HT_.out (by kernel_rfl)) (fun _ _ _ h => h) (Or.inr ⟨by rfl, rfl⟩) ?_ ?_
        rotate_left
        ·simp only [Act.put, sa_, sz_, ss_, i64_w, i32_w]
         rfl
        refine pure_ (i := 12) (N := some 111) (v := undef) (a' := ?_) #[true, true, true, true, true, true, true, true, true, true, true, true, true, false, false, false, false, false, false] rfl rfl (any_of HT_.out (by kernel_rfl)) (fun _ _ _ h => h) (Or.inr ⟨by rfl, rfl⟩) ?_ ?_
        rotate_left
        ·simp only [Act.put, sa_, sz_, ss_, i64_w, i32_w]
         rfl
        refine pure_ (i := 13) (N := some 112) (v := undef) (a' := ?_) #[true, true, true, true, true, true, true, true, true, true, true, true, true, true, false, false, false, false, false] rfl rfl (any_of HT_.out (by kernel_rfl)) (fun _ _ _ h => h) (Or.inr ⟨by rfl, rfl⟩) ?_ ?_
        rotate_left
        ·simp only [Act.put, sa_, sz_, ss_, i64_w, i32_w]
         rfl
        refine pure_ (i := 14) (N := some 113) (v := undef) (a' := ?_) #[true, true, true, true, true, true, true, true, true, true, true, true, true, true, true, false, false, false, false] rfl rfl (any_of HT_.out (by kernel_rfl)) (fun _ _ _ h => h) (Or.inr ⟨by rfl, rfl⟩) ?_ ?_
        rotate_left
        ·simp only [Act.put, sa_, sz_, ss_, i64_w, i32_w]
         rfl
        refine pure_ (i := 15) (N := some 114) (v := undef) (a' := ?_) #[true, true, true, true, true, true, true, true, true, true, true, true, true, true, true, true, false, false, false] rfl rfl (any_of HT_.out (by kernel_rfl)) (fun _ _ _ h => h) (Or.inr ⟨by rfl, rfl⟩) ?_ ?_
        rotate_left
        ·simp only [Act.put, sa_, sz_, ss_, i64_w, i32_w]
         rfl
        refine pure_ (i := 16) (N := some 115) (v := undef) (a' := ?_) #[true, true, true, true, true, true, true, true, true, true, true, true, true, true, true, true, true, false, false] rfl rfl (any_of HT_.out (by kernel_rfl)) (fun _ _ _ h => h) (Or.inr ⟨by rfl, rfl⟩) ?_ ?_
        rotate_left
        ·simp only [Act.put, sa_, sz_, ss_, i64_w, i32_w]
         rfl
        refine pure_ (i := 17) (N := some 116) (v := ?_) (a' := ?_) #[true, true, true, true, true, true, true, true, true, true, true, true, true, true, true, true, true, true, false] rfl rfl (any_of HT_.out (by kernel_rfl)) (fun _ _ _ h => h) (Or.inl ⟨by rfl, ?_⟩) ?_ ?_
        rotate_left
        ·intro w'
         go_simp
         with_reducible rfl
        rotate_left
        ·simp only [Act.put, sa_, sz_, ss_, i64_w, i32_w]
         rfl
        refine pure_ (i := 18) (N := some 0) (v := ?_) (a' := ?_) #[true, true, true, true, true, true, true, true, true, true, true, true, true, true, true, true, true, true, true] rfl rfl (any_of HT_.out (by kernel_rfl)) (fun _ _ _ h => h) (Or.inl ⟨by rfl, ?_⟩) ?_ ?_
        rotate_left
        ·intro w'
         go_simp
         with_reducible rfl
        rotate_left
        ·simp only [Act.put, sa_, sz_, ss_, i64_w, i32_w]
         rfl
        refine done_ (done_of HT_.out (by kernel_rfl)) ?_
        try go_wp2
        go_ret
        exact ⟨er_, bk_ HB.out⟩
      ·rw [if_neg c58] at H
       exact absurd H (by simp)
     ·replace c57 := Bool.eq_false_iff.mpr c57
      subst c57
      have H1 : (some false) = some r := by rw [if_neg (show ¬ (false = true) by decide)] at H; exact H
      clear H
      have H := H1
      clear H1
      obtain rfl := Option.some.inj H
      try go_wp2
      have n0_ := A_ (Kd.R_drew HO_8.out)
      have n1_ := A_ (Kd.R_drew HO_184001.out)
      have n2_ := A_ (blk_drew BK183.out)
      have n3_ := A_ (below_drew1 HB.out)
      clear HO_8 HO_184001 BK183 HB
      have HO_8 := n0_
      have HO_184001 := n1_
      have BK183 := n2_
      have HB := n3_
      clear n0_ n1_ n2_ n3_
      obtain ⟨Ao94, co94, eo94⟩ := Kd.R_slice HO_8.out
      (first | subst eo94 | (injection eo94 with f1_ f2_ f3_; have f4_ := f1_.symm; have f5_ := f3_.symm; clear f1_ f2_ f3_; subst f4_; subst f5_))
      have p188 : 0 ≤ (0 : Int) := (by omega)
      have q188 : 0 < (t179.length : Int) := od_
      obtain ⟨ad188, e188, hx188_0⟩ := Kd.at_int (Kd.R_reads' HO_8.out).2.2 0 p188 q188
      cases e188
      have qi188 : (0 < t179.length) = True := eq_true (by omega)
      (try rw [show ((0 : Int)).toNat = 0 from rfl] at hx188_0)
      (try rw [Addr.add_zero'] at hx188_0)
      replace p188 := eq_true p188
      replace q188 := eq_true q188
      refine start_ (n := 15) (S := fun w' => w'.cell? ⟨gb183, 0, none⟩ = some (.int .i64 t175) ∧ w'.cell? ⟨gb183, 1, none⟩ = some (.slice Ao18 t176.length co18) ∧ w'.cell? ad188 = some (.int .i64 (rd t179 0))) (ds := []) #[false, false, false, false, false, false, false, false, false, false, false, false, false, false, false] (by kernel_rfl) rfl rfl ⟨(blk_cell BK183.out 0).trans rfl, (blk_cell BK183.out 1).trans rfl, hx188_0⟩ (fun hHeld => ?_); refine with_tabW standstilllaw08_awake.tab7 standstilllaw08_awake.bits7 (fun HT_ HW_ => ?_)
      generalize wc.drew = w93 at HO_8 HO_184001 BK183 HB hx188_0 hHeld ⊢
      refine pure_ (i := 1) (N := some 90) (v := ?_) (a' := ?_) #[false, true, false, false, false, false, false, false, false, false, false, false, false, false, false] rfl rfl (any_of HT_.out (by kernel_rfl)) (fun _ _ _ h => h) (Or.inl ⟨by rfl, ?_⟩) ?_ ?_
      rotate_left
      ·intro w'
       go_simp
       with_reducible rfl
      rotate_left
      ·simp only [Act.put, sa_, sz_, ss_, i64_w, i32_w]
       rfl
      refine pure_ (i := 2) (N := some 91) (v := ?_) (a' := ?_) #[false, true, true, false, false, false, false, false, false, false, false, false, false, false, false] rfl rfl (any_of HT_.out (by kernel_rfl)) (fun _ _ _ h => h) (Or.inl ⟨by rfl, ?_⟩) ?_ ?_
      rotate_left
      ·intro w'
       go_simp
       with_reducible rfl
      rotate_left
      ·simp only [Act.put, sa_, sz_, ss_, i64_w, i32_w]
       rfl
      refine take_ (i := 0) (N := some 89) (v := ?_) (a' := ?_) #[true, true, true, false, false, false, false, false, false, false, false, false, false, false, false] rfl rfl (take_ofW HT_.out HW_.out (by kernel_rfl)) (fun _ _ _ h => h) (Or.inl ⟨by rfl, ?_⟩) hHeld ?_ ?_
      rotate_left
      ·rintro w' ⟨s0, s1, s2⟩
       go_simp
       with_reducible rfl
      rotate_left
      ·simp only [Act.put, sa_, sz_, ss_, i64_w, i32_w]
       rfl
      refine take_ (i := 3) (N := some 92) (v := ?_) (a' := ?_) #[true, true, true, true, false, false, false, false, false, false, false, false, false, false, false] rfl rfl (take_ofW HT_.out HW_.out (by kernel_rfl)) (fun _ _ _ h => h) (Or.inl ⟨by rfl, ?_⟩) hHeld ?_ ?_
      rotate_left
      ·rintro w' ⟨s0, s1, s2⟩
       go_simp
       with_reducible rfl
      rotate_left
      ·simp only [Act.put, sa_, sz_, ss_, i64_w, i32_w]
       rfl
      refine join_ (σ := Value × Value × Nat) 3 #[true, true, true, true, true, true, true, true, true, true, true, true, false, false, false] (fun s_ => [(93, s_.1), (95, .tuple #[.agg #[.int .i64 t192, s_.2.1], .int .i64 t196, .bool false]), (10, .pointer (some ⟨s_.2.2, 0, none⟩)), (94, .agg #[.int .i64 (rd t179 0), s_.1]), (88, .tuple #[.agg #[.int .i64 t192, s_.2.1], .int .i64 t196, .bool false]), (96, .agg #[.int .i64 t192, s_.2.1]), (97, .int .i64 t196), (98, .bool false)]) (fun s_ w' => (w'.cell? ⟨gb183, 0, none⟩ = some (.int .i64 t175) ∧ w'.cell? ⟨gb183, 1, none⟩ = some (.slice Ao18 t176.length co18) ∧ w'.cell? ad188 = some (.int .i64 (rd t179 0))) ∧ (Kd.R (Kd.int .i64) 3 w' w.heap.size (fun k_ => some k_ ≠ (s_.2.1 : Value).ownBlock ∧ some k_ ≠ (.slice (some ad188) t179.length co94 : Value).ownBlock) s_.1 y189) ∧ (Kd.R (Kd.int .i64) 3 w' w.heap.size (fun k_ => some k_ ≠ (s_.1 : Value).ownBlock ∧ some k_ ≠ (.slice (some ad188) t179.length co94 : Value).ownBlock) s_.2.1 t193) ∧ (Kd.R k45 45 w' w.heap.size (fun _ => True) (.slice Ao18 t176.length co18) t176) ∧ (Kd.R (Kd.int .i64) 3 w' w.heap.size (fun k_ => some k_ ≠ (s_.1 : Value).ownBlock ∧ some k_ ≠ (s_.2.1 : Value).ownBlock) (.slice (some ad188) t179.length co94) t179) ∧ (w'.heap[gb183]? = some (.cells #[.int .i64 t175, .slice Ao18 t176.length co18] 38 (0, 0))) ∧ (w'.heap[s_.2.2]? = some (.cells #[.int .i64 0, .slice none 0 0] 47 (0, 0))) ∧ (w.heap.size ≤ s_.2.2) ∧ (w.heap.size ≤ s_.2.2) ∧ (gb183 ≠ s_.2.2) ∧ (s_.2.2 ≠ gb183) ∧ (Below w.heap.size w w')) ?_ ?_
      rotate_left
      ·intro hCont
       refine two_ (i := 4) (j := 11) (Ni := some 93) (Nj := some 10) #[true, true, true, true, true, false, false, false, false, false, false, false, false, false, false] #[true, true, true, true, false, false, false, false, false, false, false, true, false, false, false] rfl rfl rfl rfl (two_of HT_.out (by kernel_rfl)) (by decide) (by decide) (fun K hK => ?_) (fun K hK => ?_)
       ·skip
        refine Kd.R_lit_step (Kd.int .i64) _ 3 ?hg (N := 93) ?hd (xs := ([8, 0] : List Int)) (inner := [.int .i64 8, .int .i64 0]) (ok := fun _ => True) (okp := fun _ => True) ?hr ?hp (fun _ hk => hk) trivial (Below.refl _ _) (Nat.le_refl _) (by simp) ?_; (case hd => rfl); (case hg => rfl); (case hr => first | (go_simp; done) | (go_simp; rfl)); (case hp => exact (Reps.one (show Kd.M (Kd.int .i64) _ _ _ 8 [.int .i64 8] from rfl) (Reps.one (show Kd.M (Kd.int .i64) _ _ _ 0 [.int .i64 0] from rfl) (Reps.none _ _))))
        intro v190 w95 ho96 hb hg_ hnew_
        have HS2_ := (hb.cell (World.block_lt_of_cell? _ _ (hHeld.2.2))).trans (hHeld.2.2)
        clear hg_ hnew_
        (first | rw [← Ny189.out] at ho96 | (simp only [Int.reduceToNat] at ho96; rw [← Ny189.out] at ho96))
        have n0_ := A_ (Kd.R_elder' (rk_ HO_8.out) (Kd.R_base ho96) hb)
        have n1_ := A_ (Kd.R_below (rk_ HO_184001.out) hb)
        have n2_ := A_ (Kd.R_lower (Kd.R_new' ho96 (Kd.R_lt (rk_ HO_8.out))) (below_size (bk_ HB.out)))
        have n3_ := A_ (blk_below (pk_ BK183.out) hb)
        have n4_ := A_ (below_step (bk_ HB.out) hb)
        clear HO_8 HO_184001 BK183 HB
        have HO_8 := n0_
        have HO_184001 := n1_
        have HO191 := n2_
        have BK183 := n3_
        have HB := n4_
        clear n0_ n1_ n2_ n3_ n4_ hb ho96
        obtain ⟨Ao97, co97, eo97⟩ := Kd.R_slice HO191.out
        (first | subst eo97 | (injection eo97 with f1_ f2_ f3_; have f4_ := f1_.symm; have f5_ := f3_.symm; clear f1_ f2_ f3_; subst f4_; subst f5_))
        refine hK.out _ _ ⟨(blk_cell BK183.out 0).trans rfl, (blk_cell BK183.out 1).trans rfl, HS2_⟩ (fun hHeld => ?_)
        clear hK K
        refine norm_ (a' := ?_) ?_ ?_
        rotate_left
        ·show Act.put _ (some 93) _ = _
         simp only [Act.put, sa_, sz_, ss_, i64_w, i32_w]
         rfl
        refine pure_ (i := 5) (N := some 94) (v := ?_) (a' := ?_) #[true, true, true, true, true, true, false, false, false, false, false, false, false, false, false] rfl rfl (any_of HT_.out (by kernel_rfl)) (fun _ _ _ h => h) (Or.inl ⟨by rfl, ?_⟩) ?_ ?_
        rotate_left
        ·intro w'
         go_simp
         with_reducible rfl
        rotate_left
        ·simp only [Act.put, sa_, sz_, ss_, i64_w, i32_w]
         rfl
        refine two_ (i := 6) (j := 11) (Ni := some 95) (Nj := some 10) #[true, true, true, true, true, true, true, false, false, false, false, false, false, false, false] #[true, true, true, true, true, true, false, false, false, false, false, true, false, false, false] rfl rfl rfl rfl (two_of HT_.out (by kernel_rfl)) (by decide) (by decide) (fun K hK => ?_) (fun K hK => ?_)
        ·skip
         refine goes_ Try.func21 (by kernel_rfl) rfl #[.agg #[.int .i64 t175, .slice Ao18 t176.length co18], .agg #[.int .i64 (rd t179 0), .slice Ao97 y189.length co97], .int .i64 100000] (by rfl) rfl rfl gl_ ?_
         with_reducible refine (standstillref06_Run.calls t175 _ _ t176 (rd t179 0) _ _ y189 100000 t192 t193 t196 false _ ?side1 ?side2 ?side3 ?side4 A56.out).mono ?_
         (case side1 => repeat (first | exact (Kd.R_reads' HO_184001.out).2.2 | (with_reducible refine Kd.C_alloc ?_ _) | (with_reducible refine Kd.C_drewN ?_ _) | (with_reducible refine Kd.C_drew ?_)))
         (case side2 => exact (Kd.R_reads' HO_184001.out).2.1)
         (case side3 => repeat (first | exact (Kd.R_reads' HO191.out).2.2 | (with_reducible refine Kd.C_alloc ?_ _) | (with_reducible refine Kd.C_drewN ?_ _) | (with_reducible refine Kd.C_drew ?_)))
         (case side4 => exact (Kd.R_reads' HO191.out).2.1)
         rintro e w98 ⟨v194, rfl, ho0, hb⟩
         have HS2_ := (hb.cell (World.block_lt_of_cell? _ _ (hHeld.2.2))).trans (hHeld.2.2)
         refine ⟨_, rfl, ?_⟩
         have n0_ := A_ (Kd.R_elder' (rk_ HO_8.out) (Kd.R_base ho0) hb)
         have n1_ := A_ (Kd.R_below (rk_ HO_184001.out) hb)
         have n2_ := A_ (Kd.R_elder' (rk_ HO191.out) (Kd.R_base ho0) hb)
         have n3_ := A_ (Kd.R_lower (Kd.R_new' (Kd.R_new' ho0 (Kd.R_lt (rk_ HO_8.out))) (Kd.R_lt (rk_ HO191.out))) (below_size (bk_ HB.out)))
         have n4_ := A_ (blk_below (pk_ BK183.out) hb)
         have n5_ := A_ (below_step (bk_ HB.out) hb)
         clear HO_8 HO_184001 HO191 BK183 HB
         have HO_8 := n0_
         have HO_184001 := n1_
         have HO191 := n2_
         have HO195 := n3_
         have BK183 := n4_
         have HB := n5_
         clear n0_ n1_ n2_ n3_ n4_ n5_
         (try clear hb)
         (try clear hb2)
         (try clear hk)
         (try clear hi)
         (try clear ho0)
         refine hK.out _ _ ⟨(blk_cell BK183.out 0).trans rfl, (blk_cell BK183.out 1).trans rfl, HS2_⟩ (fun hHeld => ?_)
         clear hK K
         refine norm_ (a' := ?_) ?_ ?_
         rotate_left
         ·show Act.put _ (some 95) _ = _
          simp only [Act.put, sa_, sz_, ss_, i64_w, i32_w]
          rfl
         refine pure_ (i := 7) (N := some 88) (v := ?_) (a' := ?_) #[true, true, true, true, true, true, true, true, false, false, false, false, false, false, false] rfl rfl (any_of HT_.out (by kernel_rfl)) (fun _ _ _ h => h) (Or.inl ⟨by rfl, ?_⟩) ?_ ?_
         rotate_left
         ·intro w'
          go_simp
          with_reducible rfl
         rotate_left
         ·simp only [Act.put, sa_, sz_, ss_, i64_w, i32_w]
          rfl
         refine pure_ (i := 8) (N := some 96) (v := ?_) (a' := ?_) #[true, true, true, true, true, true, true, true, true, false, false, false, false, false, false] rfl rfl (any_of HT_.out (by kernel_rfl)) (fun _ _ _ h => h) (Or.inl ⟨by rfl, ?_⟩) ?_ ?_
         rotate_left
         ·intro w'
          go_simp
          with_reducible rfl
         rotate_left
         ·simp only [Act.put, sa_, sz_, ss_, i64_w, i32_w]
          rfl
         refine pure_ (i := 9) (N := some 97) (v := ?_) (a' := ?_) #[true, true, true, true, true, true, true, true, true, true, false, false, false, false, false] rfl rfl (any_of HT_.out (by kernel_rfl)) (fun _ _ _ h => h) (Or.inl ⟨by rfl, ?_⟩) ?_ ?_
         rotate_left
         ·intro w'
          go_simp
          with_reducible rfl
         rotate_left
         ·simp only [Act.put, sa_, sz_, ss_, i64_w, i32_w]
          rfl
         refine pure_ (i := 10) (N := some 98) (v := ?_) (a' := ?_) #[true, true, true, true, true, true, true, true, true, true, true, false, false, false, false] rfl rfl (any_of HT_.out (by kernel_rfl)) (fun _ _ _ h => h) (Or.inl ⟨by rfl, ?_⟩) ?_ ?_
         rotate_left
         ·intro w'
          go_simp
          with_reducible rfl
         rotate_left
         ·simp only [Act.put, sa_, sz_, ss_, i64_w, i32_w]
          rfl
         refine one_ (i := 11) (N := some 10) #[true, true, true, true, true, true, true, true, true, true, true, true, false, false, false] rfl rfl (one_of HT_.out (by kernel_rfl)) (by decide) (fun K hK => ?_)
         refine box_step ?hg (N := 10) ?hd (cs := #[.int .i64 0, .slice none 0 0]) (t := 47) ?hr ?_; (case hd => rfl); (case hg => rfl); (case hr => first | (go_simp; done) | (go_simp; rfl))
         intro gb198 hg w99 hbox hb
         have HS2_ := (hb.cell (World.block_lt_of_cell? _ _ (hHeld.2.2))).trans (hHeld.2.2)
         have n0_ := A_ (Kd.R_below (rk_ HO_8.out) hb)
         have n1_ := A_ (Kd.R_below (rk_ HO_184001.out) hb)
         have n2_ := A_ (Kd.R_below (rk_ HO191.out) hb)
         have n3_ := A_ (Kd.R_below (rk_ HO195.out) hb)
         have n4_ := A_ (blk_below (pk_ BK183.out) hb)
         have n5_ := A_ (below_step (bk_ HB.out) hb)
         have n6_ := A_ (hbox)
         have n7_ := A_ (bz_ hg (bk_ HB.out))
         have n8_ := A_ (bz_ hg (bk_ HB.out))
         have n9_ := A_ (nl_ hg (pk_ BK183.out))
         have n10_ := A_ (ng_ hg (pk_ BK183.out))
         clear HO_8 HO_184001 HO191 HO195 BK183 HB
         have HO_8 := n0_
         have HO_184001 := n1_
         have HO191 := n2_
         have HO195 := n3_
         have BK183 := n4_
         have HB := n5_
         have BK198 := n6_
         have GW198 := n7_
         have GE198 := n8_
         have NB183_198 := n9_
         have NB198_183 := n10_
         clear n0_ n1_ n2_ n3_ n4_ n5_ n6_ n7_ n8_ n9_ n10_ hb hbox hg
         refine hK.out _ _ ⟨(blk_cell BK183.out 0).trans rfl, (blk_cell BK183.out 1).trans rfl, HS2_⟩ (fun hHeld => ?_)
         clear hK K
         refine norm_ (a' := ?_) ?_ ?_
         rotate_left
         ·show Act.put _ (some 10) _ = _
          simp only [Act.put, sa_, sz_, ss_, i64_w, i32_w]
          rfl
         exact norm_ (by simp only [putAll, Act.put, List.setIfInBounds_toArray, List.set_cons_zero, List.set_cons_succ]) (hCont (.slice Ao97 y189.length co97, v194, gb198) _ ⟨hHeld, (by (with_reducible repeat (first | apply Kd.R_alloc | apply Kd.R_drewN | apply Kd.R_drew)); exact Kd.R_mono HO191.out (fun _ hk => ⟨hk.2, hk.1.2⟩)), (by (with_reducible repeat (first | apply Kd.R_alloc | apply Kd.R_drewN | apply Kd.R_drew)); exact Kd.R_mono HO195.out (fun _ hk => ⟨hk.2, hk.1.2⟩)), (rk_ HO_184001.out), (by (with_reducible repeat (first | apply Kd.R_alloc | apply Kd.R_drewN | apply Kd.R_drew)); exact Kd.R_mono HO_8.out (fun _ hk => ⟨hk.1.2, hk.2⟩)), (pk_ BK183.out), (pk_ BK198.out), GW198.out, GE198.out, NB183_198.out, NB198_183.out, (bk_ HB.out)⟩)
        ·skip
         refine box_step ?hg (N := 10) ?hd (cs := #[.int .i64 0, .slice none 0 0]) (t := 47) ?hr ?_; (case hd => rfl); (case hg => rfl); (case hr => first | (go_simp; done) | (go_simp; rfl))
         intro gb198 hg w98 hbox hb
         have HS2_ := (hb.cell (World.block_lt_of_cell? _ _ (hHeld.2.2))).trans (hHeld.2.2)
         have n0_ := A_ (Kd.R_below (rk_ HO_8.out) hb)
         have n1_ := A_ (Kd.R_below (rk_ HO_184001.out) hb)
         have n2_ := A_ (Kd.R_below (rk_ HO191.out) hb)
         have n3_ := A_ (blk_below (pk_ BK183.out) hb)
         have n4_ := A_ (below_step (bk_ HB.out) hb)
         have n5_ := A_ (hbox)
         have n6_ := A_ (bz_ hg (bk_ HB.out))
         have n7_ := A_ (bz_ hg (bk_ HB.out))
         have n8_ := A_ (nl_ hg (pk_ BK183.out))
         have n9_ := A_ (ng_ hg (pk_ BK183.out))
         clear HO_8 HO_184001 HO191 BK183 HB
         have HO_8 := n0_
         have HO_184001 := n1_
         have HO191 := n2_
         have BK183 := n3_
         have HB := n4_
         have BK198 := n5_
         have GW198 := n6_
         have GE198 := n7_
         have NB183_198 := n8_
         have NB198_183 := n9_
         clear n0_ n1_ n2_ n3_ n4_ n5_ n6_ n7_ n8_ n9_ hb hbox hg
         refine hK.out _ _ ⟨(blk_cell BK183.out 0).trans rfl, (blk_cell BK183.out 1).trans rfl, HS2_⟩ (fun hHeld => ?_)
         clear hK K
         refine norm_ (a' := ?_) ?_ ?_
         rotate_left
         ·show Act.put _ (some 10) _ = _
          simp only [Act.put, sa_, sz_, ss_, i64_w, i32_w]
          rfl
         refine one_ (i := 6) (N := some 95) #[true, true, true, true, true, true, true, false, false, false, false, true, false, false, false] rfl rfl (one_of HT_.out (by kernel_rfl)) (by decide) (fun K hK => ?_)
         refine goes_ Try.func21 (by kernel_rfl) rfl #[.agg #[.int .i64 t175, .slice Ao18 t176.length co18], .agg #[.int .i64 (rd t179 0), .slice Ao97 y189.length co97], .int .i64 100000] (by rfl) rfl rfl gl_ ?_
         with_reducible refine (standstillref06_Run.calls t175 _ _ t176 (rd t179 0) _ _ y189 100000 t192 t193 t196 false _ ?side1 ?side2 ?side3 ?side4 A56.out).mono ?_
         (case side1 => repeat (first | exact (Kd.R_reads' HO_184001.out).2.2 | (with_reducible refine Kd.C_alloc ?_ _) | (with_reducible refine Kd.C_drewN ?_ _) | (with_reducible refine Kd.C_drew ?_)))
         (case side2 => exact (Kd.R_reads' HO_184001.out).2.1)
         (case side3 => repeat (first | exact (Kd.R_reads' HO191.out).2.2 | (with_reducible refine Kd.C_alloc ?_ _) | (with_reducible refine Kd.C_drewN ?_ _) | (with_reducible refine Kd.C_drew ?_)))
         (case side4 => exact (Kd.R_reads' HO191.out).2.1)
         rintro e w99 ⟨v194, rfl, ho0, hb⟩
         have HS2_ := (hb.cell (World.block_lt_of_cell? _ _ (hHeld.2.2))).trans (hHeld.2.2)
         refine ⟨_, rfl, ?_⟩
         have n0_ := A_ (Kd.R_elder' (rk_ HO_8.out) (Kd.R_base ho0) hb)
         have n1_ := A_ (Kd.R_below (rk_ HO_184001.out) hb)
         have n2_ := A_ (Kd.R_elder' (rk_ HO191.out) (Kd.R_base ho0) hb)
         have n3_ := A_ (Kd.R_lower (Kd.R_new' (Kd.R_new' ho0 (Kd.R_lt (rk_ HO_8.out))) (Kd.R_lt (rk_ HO191.out))) (below_size (bk_ HB.out)))
         have n4_ := A_ (blk_below (pk_ BK183.out) hb)
         have n5_ := A_ (blk_below (pk_ BK198.out) hb)
         have n6_ := A_ (below_step (bk_ HB.out) hb)
         clear HO_8 HO_184001 HO191 BK183 BK198 HB
         have HO_8 := n0_
         have HO_184001 := n1_
         have HO191 := n2_
         have HO195 := n3_
         have BK183 := n4_
         have BK198 := n5_
         have HB := n6_
         clear n0_ n1_ n2_ n3_ n4_ n5_ n6_
         (try clear hb)
         (try clear hb2)
         (try clear hk)
         (try clear hi)
         (try clear ho0)
         refine hK.out _ _ ⟨(blk_cell BK183.out 0).trans rfl, (blk_cell BK183.out 1).trans rfl, HS2_⟩ (fun hHeld => ?_)
         clear hK K
         refine norm_ (a' := ?_) ?_ ?_
         rotate_left
         ·show Act.put _ (some 95) _ = _
          simp only [Act.put, sa_, sz_, ss_, i64_w, i32_w]
          rfl
         refine pure_ (i := 7) (N := some 88) (v := ?_) (a' := ?_) #[true, true, true, true, true, true, true, true, false, false, false, true, false, false, false] rfl rfl (any_of HT_.out (by kernel_rfl)) (fun _ _ _ h => h) (Or.inl ⟨by rfl, ?_⟩) ?_ ?_
         rotate_left
         ·intro w'
          go_simp
          with_reducible rfl
         rotate_left
         ·simp only [Act.put, sa_, sz_, ss_, i64_w, i32_w]
          rfl
         refine pure_ (i := 8) (N := some 96) (v := ?_) (a' := ?_) #[true, true, true, true, true, true, true, true, true, false, false, true, false, false, false] rfl rfl (any_of HT_.out (by kernel_rfl)) (fun _ _ _ h => h) (Or.inl ⟨by rfl, ?_⟩) ?_ ?_
         rotate_left
         ·intro w'
          go_simp
          with_reducible rfl
         rotate_left
         ·simp only [Act.put, sa_, sz_, ss_, i64_w, i32_w]
          rfl
         refine pure_ (i := 9) (N := some 97) (v := ?_) (a' := ?_) #[true, true, true, true, true, true, true, true, true, true, false, true, false, false, false] rfl rfl (any_of HT_.out (by kernel_rfl)) (fun _ _ _ h => h) (Or.inl ⟨by rfl, ?_⟩) ?_ ?_
         rotate_left
         ·intro w'
          go_simp
          with_reducible rfl
         rotate_left
         ·simp only [Act.put, sa_, sz_, ss_, i64_w, i32_w]
          rfl
         refine pure_ (i := 10) (N := some 98) (v := ?_) (a' := ?_) #[true, true, true, true, true, true, true, true, true, true, true, true, false, false, false] rfl rfl (any_of HT_.out (by kernel_rfl)) (fun _ _ _ h => h) (Or.inl ⟨by rfl, ?_⟩) ?_ ?_
         rotate_left
         ·intro w'
          go_simp
          with_reducible rfl
         rotate_left
         ·simp only [Act.put, sa_, sz_, ss_, i64_w, i32_w]
          rfl
         exact norm_ (by simp only [putAll, Act.put, List.setIfInBounds_toArray, List.set_cons_zero, List.set_cons_succ]) (hCont (.slice Ao97 y189.length co97, v194, gb198) _ ⟨hHeld, (by (with_reducible repeat (first | apply Kd.R_alloc | apply Kd.R_drewN | apply Kd.R_drew)); exact Kd.R_mono HO191.out (fun _ hk => ⟨hk.2, hk.1.2⟩)), (by (with_reducible repeat (first | apply Kd.R_alloc | apply Kd.R_drewN | apply Kd.R_drew)); exact Kd.R_mono HO195.out (fun _ hk => ⟨hk.2, hk.1.2⟩)), (rk_ HO_184001.out), (by (with_reducible repeat (first | apply Kd.R_alloc | apply Kd.R_drewN | apply Kd.R_drew)); exact Kd.R_mono HO_8.out (fun _ hk => ⟨hk.1.2, hk.2⟩)), (pk_ BK183.out), (pk_ BK198.out), GW198.out, GE198.out, NB183_198.out, NB198_183.out, (bk_ HB.out)⟩)
       ·skip
        refine box_step ?hg (N := 10) ?hd (cs := #[.int .i64 0, .slice none 0 0]) (t := 47) ?hr ?_; (case hd => rfl); (case hg => rfl); (case hr => first | (go_simp; done) | (go_simp; rfl))
        intro gb198 hg w95 hbox hb
        have HS2_ := (hb.cell (World.block_lt_of_cell? _ _ (hHeld.2.2))).trans (hHeld.2.2)
        have n0_ := A_ (Kd.R_below (rk_ HO_8.out) hb)
        have n1_ := A_ (Kd.R_below (rk_ HO_184001.out) hb)
        have n2_ := A_ (blk_below (pk_ BK183.out) hb)
        have n3_ := A_ (below_step (bk_ HB.out) hb)
        have n4_ := A_ (hbox)
        have n5_ := A_ (bz_ hg (bk_ HB.out))
        have n6_ := A_ (bz_ hg (bk_ HB.out))
        have n7_ := A_ (nl_ hg (pk_ BK183.out))
        have n8_ := A_ (ng_ hg (pk_ BK183.out))
        clear HO_8 HO_184001 BK183 HB
        have HO_8 := n0_
        have HO_184001 := n1_
        have BK183 := n2_
        have HB := n3_
        have BK198 := n4_
        have GW198 := n5_
        have GE198 := n6_
        have NB183_198 := n7_
        have NB198_183 := n8_
        clear n0_ n1_ n2_ n3_ n4_ n5_ n6_ n7_ n8_ hb hbox hg
        refine hK.out _ _ ⟨(blk_cell BK183.out 0).trans rfl, (blk_cell BK183.out 1).trans rfl, HS2_⟩ (fun hHeld => ?_)
        clear hK K
        refine norm_ (a' := ?_) ?_ ?_
        rotate_left
        ·show Act.put _ (some 10) _ = _
         simp only [Act.put, sa_, sz_, ss_, i64_w, i32_w]
         rfl
        refine one_ (i := 4) (N := some 93) #[true, true, true, true, true, false, false, false, false, false, false, true, false, false, false] rfl rfl (one_of HT_.out (by kernel_rfl)) (by decide) (fun K hK => ?_)
        refine Kd.R_lit_step (Kd.int .i64) _ 3 ?hg (N := 93) ?hd (xs := ([8, 0] : List Int)) (inner := [.int .i64 8, .int .i64 0]) (ok := fun _ => True) (okp := fun _ => True) ?hr ?hp (fun _ hk => hk) trivial (Below.refl _ _) (Nat.le_refl _) (by simp) ?_; (case hd => rfl); (case hg => rfl); (case hr => first | (go_simp; done) | (go_simp; rfl)); (case hp => exact (Reps.one (show Kd.M (Kd.int .i64) _ _ _ 8 [.int .i64 8] from rfl) (Reps.one (show Kd.M (Kd.int .i64) _ _ _ 0 [.int .i64 0] from rfl) (Reps.none _ _))))
        intro v190 w96 ho97 hb hg_ hnew_
        have HS2_ := (hb.cell (World.block_lt_of_cell? _ _ (hHeld.2.2))).trans (hHeld.2.2)
        clear hg_ hnew_
        (first | rw [← Ny189.out] at ho97 | (simp only [Int.reduceToNat] at ho97; rw [← Ny189.out] at ho97))
        have n0_ := A_ (Kd.R_elder' (rk_ HO_8.out) (Kd.R_base ho97) hb)
        have n1_ := A_ (Kd.R_below (rk_ HO_184001.out) hb)
        have n2_ := A_ (Kd.R_lower (Kd.R_new' ho97 (Kd.R_lt (rk_ HO_8.out))) (below_size (bk_ HB.out)))
        have n3_ := A_ (blk_below (pk_ BK183.out) hb)
        have n4_ := A_ (blk_below (pk_ BK198.out) hb)
        have n5_ := A_ (below_step (bk_ HB.out) hb)
        clear HO_8 HO_184001 BK183 BK198 HB
        have HO_8 := n0_
        have HO_184001 := n1_
        have HO191 := n2_
        have BK183 := n3_
        have BK198 := n4_
        have HB := n5_
        clear n0_ n1_ n2_ n3_ n4_ n5_ hb ho97
        obtain ⟨Ao98, co98, eo98⟩ := Kd.R_slice HO191.out
        (first | subst eo98 | (injection eo98 with f1_ f2_ f3_; have f4_ := f1_.symm; have f5_ := f3_.symm; clear f1_ f2_ f3_; subst f4_; subst f5_))
        refine hK.out _ _ ⟨(blk_cell BK183.out 0).trans rfl, (blk_cell BK183.out 1).trans rfl, HS2_⟩ (fun hHeld => ?_)
        clear hK K
        refine norm_ (a' := ?_) ?_ ?_
        rotate_left
        ·show Act.put _ (some 93) _ = _
         simp only [Act.put, sa_, sz_, ss_, i64_w, i32_w]
         rfl
        refine pure_ (i := 5) (N := some 94) (v := ?_) (a' := ?_) #[true, true, true, true, true, true, false, false, false, false, false, true, false, false, false] rfl rfl (any_of HT_.out (by kernel_rfl)) (fun _ _ _ h => h) (Or.inl ⟨by rfl, ?_⟩) ?_ ?_
        rotate_left
        ·intro w'
         go_simp
         with_reducible rfl
        rotate_left
        ·simp only [Act.put, sa_, sz_, ss_, i64_w, i32_w]
         rfl
        refine one_ (i := 6) (N := some 95) #[true, true, true, true, true, true, true, false, false, false, false, true, false, false, false] rfl rfl (one_of HT_.out (by kernel_rfl)) (by decide) (fun K hK => ?_)
        refine goes_ Try.func21 (by kernel_rfl) rfl #[.agg #[.int .i64 t175, .slice Ao18 t176.length co18], .agg #[.int .i64 (rd t179 0), .slice Ao98 y189.length co98], .int .i64 100000] (by rfl) rfl rfl gl_ ?_
        with_reducible refine (standstillref06_Run.calls t175 _ _ t176 (rd t179 0) _ _ y189 100000 t192 t193 t196 false _ ?side1 ?side2 ?side3 ?side4 A56.out).mono ?_
        (case side1 => repeat (first | exact (Kd.R_reads' HO_184001.out).2.2 | (with_reducible refine Kd.C_alloc ?_ _) | (with_reducible refine Kd.C_drewN ?_ _) | (with_reducible refine Kd.C_drew ?_)))
        (case side2 => exact (Kd.R_reads' HO_184001.out).2.1)
        (case side3 => repeat (first | exact (Kd.R_reads' HO191.out).2.2 | (with_reducible refine Kd.C_alloc ?_ _) | (with_reducible refine Kd.C_drewN ?_ _) | (with_reducible refine Kd.C_drew ?_)))
        (case side4 => exact (Kd.R_reads' HO191.out).2.1)
        rintro e w99 ⟨v194, rfl, ho0, hb⟩
        have HS2_ := (hb.cell (World.block_lt_of_cell? _ _ (hHeld.2.2))).trans (hHeld.2.2)
        refine ⟨_, rfl, ?_⟩
        have n0_ := A_ (Kd.R_elder' (rk_ HO_8.out) (Kd.R_base ho0) hb)
        have n1_ := A_ (Kd.R_below (rk_ HO_184001.out) hb)
        have n2_ := A_ (Kd.R_elder' (rk_ HO191.out) (Kd.R_base ho0) hb)
        have n3_ := A_ (Kd.R_lower (Kd.R_new' (Kd.R_new' ho0 (Kd.R_lt (rk_ HO_8.out))) (Kd.R_lt (rk_ HO191.out))) (below_size (bk_ HB.out)))
        have n4_ := A_ (blk_below (pk_ BK183.out) hb)
        have n5_ := A_ (blk_below (pk_ BK198.out) hb)
        have n6_ := A_ (below_step (bk_ HB.out) hb)
        clear HO_8 HO_184001 HO191 BK183 BK198 HB
        have HO_8 := n0_
        have HO_184001 := n1_
        have HO191 := n2_
        have HO195 := n3_
        have BK183 := n4_
        have BK198 := n5_
        have HB := n6_
        clear n0_ n1_ n2_ n3_ n4_ n5_ n6_
        (try clear hb)
        (try clear hb2)
        (try clear hk)
        (try clear hi)
        (try clear ho0)
        refine hK.out _ _ ⟨(blk_cell BK183.out 0).trans rfl, (blk_cell BK183.out 1).trans rfl, HS2_⟩ (fun hHeld => ?_)
        clear hK K
        refine norm_ (a' := ?_) ?_ ?_
        rotate_left
        ·show Act.put _ (some 95) _ = _
         simp only [Act.put, sa_, sz_, ss_, i64_w, i32_w]
         rfl
        refine pure_ (i := 7) (N := some 88) (v := ?_) (a' := ?_) #[true, true, true, true, true, true, true, true, false, false, false, true, false, false, false] rfl rfl (any_of HT_.out (by kernel_rfl)) (fun _ _ _ h => h) (Or.inl ⟨by rfl, ?_⟩) ?_ ?_
        rotate_left
        ·intro w'
         go_simp
         with_reducible rfl
        rotate_left
        ·simp only [Act.put, sa_, sz_, ss_, i64_w, i32_w]
         rfl
        refine pure_ (i := 8) (N := some 96) (v := ?_) (a' := ?_) #[true, true, true, true, true, true, true, true, true, false, false, true, false, false, false] rfl rfl (any_of HT_.out (by kernel_rfl)) (fun _ _ _ h => h) (Or.inl ⟨by rfl, ?_⟩) ?_ ?_
        rotate_left
        ·intro w'
         go_simp
         with_reducible rfl
        rotate_left
        ·simp only [Act.put, sa_, sz_, ss_, i64_w, i32_w]
         rfl
        refine pure_ (i := 9) (N := some 97) (v := ?_) (a' := ?_) #[true, true, true, true, true, true, true, true, true, true, false, true, false, false, false] rfl rfl (any_of HT_.out (by kernel_rfl)) (fun _ _ _ h => h) (Or.inl ⟨by rfl, ?_⟩) ?_ ?_
        rotate_left
        ·intro w'
         go_simp
         with_reducible rfl
        rotate_left
        ·simp only [Act.put, sa_, sz_, ss_, i64_w, i32_w]
         rfl
        refine pure_ (i := 10) (N := some 98) (v := ?_) (a' := ?_) #[true, true, true, true, true, true, true, true, true, true, true, true, false, false, false] rfl rfl (any_of HT_.out (by kernel_rfl)) (fun _ _ _ h => h) (Or.inl ⟨by rfl, ?_⟩) ?_ ?_
        rotate_left
        ·intro w'
         go_simp
         with_reducible rfl
        rotate_left
        ·simp only [Act.put, sa_, sz_, ss_, i64_w, i32_w]
         rfl
        exact norm_ (by simp only [putAll, Act.put, List.setIfInBounds_toArray, List.set_cons_zero, List.set_cons_succ]) (hCont (.slice Ao98 y189.length co98, v194, gb198) _ ⟨hHeld, (by (with_reducible repeat (first | apply Kd.R_alloc | apply Kd.R_drewN | apply Kd.R_drew)); exact Kd.R_mono HO191.out (fun _ hk => ⟨hk.2, hk.1.2⟩)), (by (with_reducible repeat (first | apply Kd.R_alloc | apply Kd.R_drewN | apply Kd.R_drew)); exact Kd.R_mono HO195.out (fun _ hk => ⟨hk.2, hk.1.2⟩)), (rk_ HO_184001.out), (by (with_reducible repeat (first | apply Kd.R_alloc | apply Kd.R_drewN | apply Kd.R_drew)); exact Kd.R_mono HO_8.out (fun _ hk => ⟨hk.1.2, hk.2⟩)), (pk_ BK183.out), (pk_ BK198.out), GW198.out, GE198.out, NB183_198.out, NB198_183.out, (bk_ HB.out)⟩)
      rintro ⟨v190, v194, gb198⟩ w100 ⟨hS_, h0_, h1_, h2_, h3_, h4_, h5_, h6_, h7_, h8_, h9_, h10_⟩
      have n0_ : Aside0 (Kd.R (Kd.int .i64) 3 w100 w.heap.size (fun k_ => some k_ ≠ (v194 : Value).ownBlock ∧ some k_ ≠ (.slice (some ad188) t179.length co94 : Value).ownBlock) v190 y189) := ⟨h0_⟩
      have n1_ : Aside0 (Kd.R (Kd.int .i64) 3 w100 w.heap.size (fun k_ => some k_ ≠ (v190 : Value).ownBlock ∧ some k_ ≠ (.slice (some ad188) t179.length co94 : Value).ownBlock) v194 t193) := ⟨h1_⟩
      have n2_ : Aside0 (Kd.R k45 45 w100 w.heap.size (fun _ => True) (.slice Ao18 t176.length co18) t176) := ⟨h2_⟩
      have n3_ : Aside0 (Kd.R (Kd.int .i64) 3 w100 w.heap.size (fun k_ => some k_ ≠ (v190 : Value).ownBlock ∧ some k_ ≠ (v194 : Value).ownBlock) (.slice (some ad188) t179.length co94) t179) := ⟨h3_⟩
      have n4_ : Aside0 (w100.heap[gb183]? = some (.cells #[.int .i64 t175, .slice Ao18 t176.length co18] 38 (0, 0))) := ⟨h4_⟩
      have n5_ : Aside0 (w100.heap[gb198]? = some (.cells #[.int .i64 0, .slice none 0 0] 47 (0, 0))) := ⟨h5_⟩
      have n6_ : Aside0 (w.heap.size ≤ gb198) := ⟨h6_⟩
      have n7_ : Aside0 (w.heap.size ≤ gb198) := ⟨h7_⟩
      have n8_ : Aside0 (gb183 ≠ gb198) := ⟨h8_⟩
      have n9_ : Aside0 (gb198 ≠ gb183) := ⟨h9_⟩
      have n10_ : Aside0 (Below w.heap.size w w100) := ⟨h10_⟩
      clear HO_8 HO_184001 BK183 HB h0_ h1_ h2_ h3_ h4_ h5_ h6_ h7_ h8_ h9_ h10_
      have HO191 := n0_
      have HO195 := n1_
      have HO_184001 := n2_
      have HO_8 := n3_
      have BK183 := n4_
      have BK198 := n5_
      have GW198 := n6_
      have GE198 := n7_
      have NB183_198 := n8_
      have NB198_183 := n9_
      have HB := n10_
      clear n0_ n1_ n2_ n3_ n4_ n5_ n6_ n7_ n8_ n9_ n10_
      have hHeld : w100.cell? ⟨gb183, 0, none⟩ = some (.int .i64 t175) ∧ w100.cell? ⟨gb183, 1, none⟩ = some (.slice Ao18 t176.length co18) ∧ w100.cell? ad188 = some (.int .i64 (rd t179 0)) := hS_
      obtain ⟨Ao101, co101, eo101⟩ := Kd.R_slice HO191.out
      (first | subst eo101 | (injection eo101 with f1_ f2_ f3_; have f4_ := f1_.symm; have f5_ := f3_.symm; clear f1_ f2_ f3_; subst f4_; subst f5_))
      obtain ⟨Ao103, co103, eo103⟩ := Kd.R_slice HO195.out
      (first | subst eo103 | (injection eo103 with f1_ f2_ f3_; have f4_ := f1_.symm; have f5_ := f3_.symm; clear f1_ f2_ f3_; subst f4_; subst f5_))
      refine norm_ (a' := ?_) ?_ ?_
      rotate_left
      ·simp only [putAll, Act.put, List.setIfInBounds_toArray, List.set_cons_zero, List.set_cons_succ]
       rfl
      refine one_ (i := 12) (N := none) #[true, true, true, true, true, true, true, true, true, true, true, true, true, false, false] rfl rfl (one_of HT_.out (by kernel_rfl)) (by decide) (fun K hK => ?_)
      have hs102 : w100.cell? ⟨gb198, 0, none⟩ = some (.int .i64 0) := (blk_cell BK198.out 0).trans rfl
      have hfs102 := blk_frozen BK198.out 0
      have hns102_0 := NB183_198.out
      have hms102_0 := NB198_183.out
      have hs104 : w100.cell? ⟨gb198, 1, none⟩ = some (.slice none 0 0) := (blk_cell BK198.out 1).trans rfl
      have hfs104 := blk_frozen BK198.out 1
      have hns104_0 := NB183_198.out
      have hms104_0 := NB198_183.out
      refine skip_ (w1 := ?_) (by rfl) rfl ?_ ?_
      rotate_left
      ·go_simp
       rfl
      refine hK.out _ _ ⟨(cf2_ NB183_198.out hHeld.1), (cf2_ NB183_198.out hHeld.2.1), ((cell_far (p := ⟨gb198, _, none⟩) (by first | exact Kd.own_blk (Kd.R_ne HO_8.out BK198.out (by decide)) | (rw [add_block]; exact Kd.own_blk (Kd.R_ne HO_8.out BK198.out (by decide))) | (show (Addr.add _ _).block ≠ _; rw [add_block]; exact Kd.own_blk (Kd.R_ne HO_8.out BK198.out (by decide))) | (dsimp only; exact Kd.own_blk (Kd.R_ne HO_8.out BK198.out (by decide)))) _).trans (((cell_far (p := ⟨gb198, _, none⟩) (by first | exact Kd.own_blk (Kd.R_ne HO_8.out BK198.out (by decide)) | (rw [add_block]; exact Kd.own_blk (Kd.R_ne HO_8.out BK198.out (by decide))) | (show (Addr.add _ _).block ≠ _; rw [add_block]; exact Kd.own_blk (Kd.R_ne HO_8.out BK198.out (by decide))) | (dsimp only; exact Kd.own_blk (Kd.R_ne HO_8.out BK198.out (by decide)))) _).trans (hHeld.2.2))))⟩ (fun hHeld => ?_)
      clear hK K
      refine pure_ (i := 13) (N := some 11) (v := ?_) (a' := ?_) #[true, true, true, true, true, true, true, true, true, true, true, true, true, true, false] rfl rfl (any_of HT_.out (by kernel_rfl)) (fun _ _ _ h => h) (Or.inl ⟨by rfl, ?_⟩) ?_ ?_
      rotate_left
      ·intro w'
       go_simp
       with_reducible rfl
      rotate_left
      ·simp only [Act.put, sa_, sz_, ss_, i64_w, i32_w]
       rfl
      refine pure_ (i := 14) (N := some 12) (v := ?_) (a' := ?_) #[true, true, true, true, true, true, true, true, true, true, true, true, true, true, true] rfl rfl (any_of HT_.out (by kernel_rfl)) (fun _ _ _ h => h) (Or.inl ⟨by rfl, ?_⟩) ?_ ?_
      rotate_left
      ·intro w'
       go_simp
       with_reducible rfl
      rotate_left
      ·simp only [Act.put, sa_, sz_, ss_, i64_w, i32_w]
       rfl
      refine done_ (done_of HT_.out (by kernel_rfl)) ?_
      try go_wp2
      have n0_ : Aside0 (Kd.R (Kd.int .i64) 3 ((w100.setCell ⟨gb198, 0, none⟩ (.int .i64 t192)).setCell ⟨gb198, 1, none⟩ (.slice Ao103 t193.length co103)) w.heap.size (fun k_ => some k_ ≠ (.slice Ao101 y189.length co101 : Value).ownBlock ∧ some k_ ≠ (.slice Ao103 t193.length co103 : Value).ownBlock) (.slice (some ad188) t179.length co94) t179) := ⟨by (with_reducible repeat (first | apply Kd.R_alloc | apply Kd.R_drewN | apply Kd.R_drew)); exact Kd.R_mono (rf2_ (Kd.R_types HO_8.out BK198.out (by decide))) (fun _ hk => ⟨hk.1.1, hk.1.2⟩)⟩
      have n1_ : Aside0 (Kd.R k45 45 ((w100.setCell ⟨gb198, 0, none⟩ (.int .i64 t192)).setCell ⟨gb198, 1, none⟩ (.slice Ao103 t193.length co103)) w.heap.size (fun _ => True) (.slice Ao18 t176.length co18) t176) := ⟨by (with_reducible repeat (first | apply Kd.R_alloc | apply Kd.R_drewN | apply Kd.R_drew)); exact Kd.R_mono (rf2_ (Kd.R_types HO_184001.out BK198.out (by decide))) (fun _ hk => trivial)⟩
      have n2_ : Aside0 (Kd.R (Kd.int .i64) 3 ((w100.setCell ⟨gb198, 0, none⟩ (.int .i64 t192)).setCell ⟨gb198, 1, none⟩ (.slice Ao103 t193.length co103)) w.heap.size (fun k_ => some k_ ≠ (.slice (some ad188) t179.length co94 : Value).ownBlock ∧ some k_ ≠ (.slice Ao103 t193.length co103 : Value).ownBlock) (.slice Ao101 y189.length co101) y189) := ⟨by (with_reducible repeat (first | apply Kd.R_alloc | apply Kd.R_drewN | apply Kd.R_drew)); exact Kd.R_mono (rf2_ (Kd.R_types HO191.out BK198.out (by decide))) (fun _ hk => ⟨hk.1.2, hk.1.1⟩)⟩
      have n3_ : Aside0 (Kd.R (Kd.int .i64) 3 ((w100.setCell ⟨gb198, 0, none⟩ (.int .i64 t192)).setCell ⟨gb198, 1, none⟩ (.slice Ao103 t193.length co103)) w.heap.size (fun k_ => some k_ ≠ (.slice (some ad188) t179.length co94 : Value).ownBlock ∧ some k_ ≠ (.slice Ao101 y189.length co101 : Value).ownBlock) (.slice Ao103 t193.length co103) t193) := ⟨by (with_reducible repeat (first | apply Kd.R_alloc | apply Kd.R_drewN | apply Kd.R_drew)); exact Kd.R_mono (rf2_ (Kd.R_types HO195.out BK198.out (by decide))) (fun _ hk => ⟨hk.1.2, hk.1.1⟩)⟩
      have n4_ : Aside0 (((w100.setCell ⟨gb198, 0, none⟩ (.int .i64 t192)).setCell ⟨gb198, 1, none⟩ (.slice Ao103 t193.length co103)).heap[gb183]? = some (.cells #[.int .i64 t175, .slice Ao18 t176.length co18] 38 (0, 0))) := ⟨by (iterate 2 (refine pk_ ?_; refine blk_far ?_ NB183_198.out _)); exact pk_ BK183.out⟩
      have n5_ : Aside0 (((w100.setCell ⟨gb198, 0, none⟩ (.int .i64 t192)).setCell ⟨gb198, 1, none⟩ (.slice Ao103 t193.length co103)).heap[gb198]? = some (.cells #[.int .i64 t192, .slice Ao103 t193.length co103] 47 (0, 0))) := ⟨by refine pk_ ?_; refine blk_put (cs := #[.int .i64 t192, .slice none 0 0]) ?_ 1 _ rfl; refine pk_ ?_; refine blk_put (cs := #[.int .i64 0, .slice none 0 0]) ?_ 0 _ rfl; exact pk_ BK198.out⟩
      have n6_ : Aside0 (Below w.heap.size w ((w100.setCell ⟨gb198, 0, none⟩ (.int .i64 t192)).setCell ⟨gb198, 1, none⟩ (.slice Ao103 t193.length co103))) := ⟨bk_ HB.out⟩
      (try clear HO_8)
      (try clear HO_184001)
      (try clear HO191)
      (try clear HO195)
      (try clear BK183)
      (try clear BK198)
      (try clear HB)
      generalize ((w100.setCell ⟨gb198, 0, none⟩ (.int .i64 t192)).setCell ⟨gb198, 1, none⟩ (.slice Ao103 t193.length co103)) = w105 at n0_ n1_ n2_ n3_ n4_ n5_ n6_ ⊢
      have HO_8 := n0_
      have HO_184001 := n1_
      have HO191 := n2_
      have HO195 := n3_
      have BK183 := n4_
      have BK198 := n5_
      have HB := n6_
      clear n0_ n1_ n2_ n3_ n4_ n5_ n6_
      have n6_ := A_ (below_drew1 HB.out)
      clear HB
      have HB := n6_
      clear n6_
      refine start_ (n := 19) (S := fun w' => True) (ds := []) #[false, false, false, false, false, false, false, false, false, false, false, false, false, false, false, false, false, false, false] (by kernel_rfl) rfl rfl trivial (fun hHeld => ?_); refine with_tabW standstilllaw08_awake.tab8 standstilllaw08_awake.bits8 (fun HT_ HW_ => ?_)
      generalize w105.drew = w106 at HB hHeld ⊢
      refine pure_ (i := 0) (N := some 99) (v := ?_) (a' := ?_) #[true, false, false, false, false, false, false, false, false, false, false, false, false, false, false, false, false, false, false] rfl rfl (any_of HT_.out (by kernel_rfl)) (fun _ _ _ h => h) (Or.inl ⟨by rfl, ?_⟩) ?_ ?_
      rotate_left
      ·intro w'
       go_simp
       with_reducible rfl
      rotate_left
      ·simp only [Act.put, sa_, sz_, ss_, i64_w, i32_w]
       rfl
      refine pure_ (i := 1) (N := some 100) (v := ?_) (a' := ?_) #[true, true, false, false, false, false, false, false, false, false, false, false, false, false, false, false, false, false, false] rfl rfl (any_of HT_.out (by kernel_rfl)) (fun _ _ _ h => h) (Or.inl ⟨by rfl, ?_⟩) ?_ ?_
      rotate_left
      ·intro w'
       go_simp
       with_reducible rfl
      rotate_left
      ·simp only [Act.put, sa_, sz_, ss_, i64_w, i32_w]
       rfl
      refine pure_ (i := 2) (N := some 101) (v := undef) (a' := ?_) #[true, true, true, false, false, false, false, false, false, false, false, false, false, false, false, false, false, false, false] rfl rfl (any_of HT_.out (by kernel_rfl)) (fun _ _ _ h => h) (Or.inr ⟨by rfl, rfl⟩) ?_ ?_
      rotate_left
      ·simp only [Act.put, sa_, sz_, ss_, i64_w, i32_w]
       rfl
      refine pure_ (i := 3) (N := some 102) (v := undef) (a' := ?_) #[true, true, true, true, false, false, false, false, false, false, false, false, false, false, false, false, false, false, false] rfl rfl (any_of HT_.out (by kernel_rfl)) (fun _ _ _ h => h) (Or.inr ⟨by rfl, rfl⟩) ?_ ?_
      rotate_left
      ·simp only [Act.put, sa_, sz_, ss_, i64_w, i32_w]
       rfl
      refine pure_ (i := 4) (N := some 103) (v := undef) (a' := ?_) #[true, true, true, true, true, false, false, false, false, false, false, false, false, false, false, false, false, false, false] rfl rfl (any_of HT_.out (by kernel_rfl)) (fun _ _ _ h => h) (Or.inr ⟨by rfl, rfl⟩) ?_ ?_
      rotate_left
      ·simp only [Act.put, sa_, sz_, ss_, i64_w, i32_w]
       rfl
      refine pure_ (i := 5) (N := some 104) (v := undef) (a' := ?_) #[true, true, true, true, true, true, false, false, false, false, false, false, false, false, false, false, false, false, false] rfl rfl (any_of HT_.out (by kernel_rfl)) (fun _ _ _ h => h) (Or.inr ⟨by rfl, rfl⟩) ?_ ?_
      rotate_left
      ·simp only [Act.put, sa_, sz_, ss_, i64_w, i32_w]
       rfl
      refine pure_ (i := 6) (N := some 105) (v := undef) (a' := ?_) #[true, true, true, true, true, true, true, false, false, false, false, false, false, false, false, false, false, false, false] rfl rfl (any_of HT_.out (by kernel_rfl)) (fun _ _ _ h => h) (Or.inr ⟨by rfl, rfl⟩) ?_ ?_
      rotate_left
      ·simp only [Act.put, sa_, sz_, ss_, i64_w, i32_w]
       rfl
      refine pure_ (i := 7) (N := some 106) (v := undef) (a' := ?_) #[true, true, true, true, true, true, true, true, false, false, false, false, false, false, false, false, false, false, false] rfl rfl (any_of HT_.out (by kernel_rfl)) (fun _ _ _ h => h) (Or.inr ⟨by rfl, rfl⟩) ?_ ?_
      rotate_left
      ·simp only [Act.put, sa_, sz_, ss_, i64_w, i32_w]
       rfl
      refine pure_ (i := 8) (N := some 107) (v := ?_) (a' := ?_) #[true, true, true, true, true, true, true, true, true, false, false, false, false, false, false, false, false, false, false] rfl rfl (any_of HT_.out (by kernel_rfl)) (fun _ _ _ h => h) (Or.inl ⟨by rfl, ?_⟩) ?_ ?_
      rotate_left
      ·intro w'
       go_simp
       with_reducible rfl
      rotate_left
      ·simp only [Act.put, sa_, sz_, ss_, i64_w, i32_w]
       rfl
      refine pure_ (i := 9) (N := some 108) (v := ?_) (a' := ?_) #[true, true, true, true, true, true, true, true, true, true, false, false, false, false, false, false, false, false, false] rfl rfl (any_of HT_.out (by kernel_rfl)) (fun _ _ _ h => h) (Or.inl ⟨by rfl, ?_⟩) ?_ ?_
      rotate_left
      ·intro w'
       go_simp
       with_reducible rfl
      rotate_left
      ·simp only [Act.put, sa_, sz_, ss_, i64_w, i32_w]
       rfl
      refine pure_ (i := 10) (N := some 109) (v := undef) (a' := ?_) #[true, true, true, true, true, true, true, true, true, true, true, false, false, false, false, false, false, false, false] rfl rfl (any_of HT_.out (by kernel_rfl)) (fun _ _ _ h => h) (Or.inr ⟨by rfl, rfl⟩) ?_ ?_
      rotate_left
      ·simp only [Act.put, sa_, sz_, ss_, i64_w, i32_w]
       rfl
      refine pure_ (i := 11) (N := some 110) (v := undef) (a' := ?_) #[true, true, true, true, true, true, true, true, true, true, true, true, false, false, false, false, false, false, false] rfl rfl (any_of HT_.out (by kernel_rfl)) (fun _ _ _ h => h) (Or.inr ⟨by rfl, rfl⟩) ?_ ?_
      rotate_left
      ·simp only [Act.put, sa_, sz_, ss_, i64_w, i32_w]
       rfl
      refine pure_ (i := 12) (N := some 111) (v := undef) (a' := ?_) #[true, true, true, true, true, true, true, true, true, true, true, true, true, false, false, false, false, false, false] rfl rfl (any_of HT_.out (by kernel_rfl)) (fun _ _ _ h => h) (Or.inr ⟨by rfl, rfl⟩) ?_ ?_
      rotate_left
      ·simp only [Act.put, sa_, sz_, ss_, i64_w, i32_w]
       rfl
      refine pure_ (i := 13) (N := some 112) (v := undef) (a' := ?_) #[true, true, true, true, true, true, true, true, true, true, true, true, true, true, false, false, false, false, false] rfl rfl (any_of HT_.out (by kernel_rfl)) (fun _ _ _ h => h) (Or.inr ⟨by rfl, rfl⟩) ?_ ?_
      rotate_left
      ·simp only [Act.put, sa_, sz_, ss_, i64_w, i32_w]
       rfl
      refine pure_ (i := 14) (N := some 113) (v := undef) (a' := ?_) #[true, true, true, true, true, true, true, true, true, true, true, true, true, true, true, false, false, false, false] rfl rfl (any_of HT_.out (by kernel_rfl)) (fun _ _ _ h => h) (Or.inr ⟨by rfl, rfl⟩) ?_ ?_
      rotate_left
      ·simp only [Act.put, sa_, sz_, ss_, i64_w, i32_w]
       rfl
      refine pure_ (i := 15) (N := some 114) (v := undef) (a' := ?_) #[true, true, true, true, true, true, true, true, true, true, true, true, true, true, true, true, false, false, false] rfl rfl (any_of HT_.out (by kernel_rfl)) (fun _ _ _ h => h) (Or.inr ⟨by rfl, rfl⟩) ?_ ?_
      rotate_left
      ·simp only [Act.put, sa_, sz_, ss_, i64_w, i32_w]
       rfl
      refine pure_ (i := 16) (N := some 115) (v := undef) (a' := ?_) #[true, true, true, true, true, true, true, true, true, true, true, true, true, true, true, true, true, false, false] rfl rfl (any_of HT_.out (by kernel_rfl)) (fun _ _ _ h => h) (Or.inr ⟨by rfl, rfl⟩) ?_ ?_
      rotate_left
      ·simp only [Act.put, sa_, sz_, ss_, i64_w, i32_w]
       rfl
      refine pure_ (i := 17) (N := some 116) (v := ?_) (a' := ?_) #[true, true, true, true, true, true, true, true, true, true, true, true, true, true, true, true, true, true, false] rfl rfl (any_of HT_.out (by kernel_rfl)) (fun _ _ _ h => h) (Or.inl ⟨by rfl, ?_⟩) ?_ ?_
      rotate_left
      ·intro w'
       go_simp
       with_reducible rfl
      rotate_left
      ·simp only [Act.put, sa_, sz_, ss_, i64_w, i32_w]
       rfl
      refine pure_ (i := 18) (N := some 0) (v := ?_) (a' := ?_) #[true, true, true, true, true, true, true, true, true, true, true, true, true, true, true, true, true, true, true] rfl rfl (any_of HT_.out (by kernel_rfl)) (fun _ _ _ h => h) (Or.inl ⟨by rfl, ?_⟩) ?_ ?_
      rotate_left
      ·intro w'
       go_simp
       with_reducible rfl
      rotate_left
      ·simp only [Act.put, sa_, sz_, ss_, i64_w, i32_w]
       rfl
      refine done_ (done_of HT_.out (by kernel_rfl)) ?_
      try go_wp2
      go_ret
      exact ⟨er_, bk_ HB.out⟩
    ·rw [if_neg c55] at H
     exact absurd H (by simp)

end Go.Proofs.Ytkbekdjoaibhbaa.PPairShapes
