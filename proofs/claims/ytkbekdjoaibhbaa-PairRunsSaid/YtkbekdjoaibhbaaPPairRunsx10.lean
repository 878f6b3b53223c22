-- out of a turned copy of the print, by a program of this session; Lean checks it
import Derived.Test.YtkbekdjoaibhbaaPPairRunsx0
import Derived.Test.YtkbekdjoaibhbaaPPairRunsx2
import Derived.Test.YtkbekdjoaibhbaaPPairRunsx5
import Derived.Test.YtkbekdjoaibhbaaPPairRunsx6
import Derived.Test.YtkbekdjoaibhbaaPPairRunsx7
import Derived.Test.YtkbekdjoaibhbaaPPairRunsx8
import Derived.Test.YtkbekdjoaibhbaaPPairRunsx9
namespace Go.Proofs.Ytkbekdjoaibhbaa.PPairRuns
open Go.RowKit Go.Proofs.YtkbekdjoaibhbaaW.PrintWords Go.Proofs.YtkbekdjoaibhbaaW.PrintLast Go.Proofs.YtkbekdjoaibhbaaW.PrintMore
attribute [local go_sem] max2_int min2_int max_two min_two max_three min_three max_four min_four   -- for this text's walks alone
set_option linter.unusedVariables false
set_option linter.unusedSimpArgs false

attribute [local go_sem] isSome_put_
/-! ### standstilllaw08_awake: function 7 -/
def standstilllaw08_awake.f (k : Nat)  : Option (Bool) := (pair_Encode.f k (([3, 1] : List Int))).bind fun bt161 => ((pair_Decode.f k 24 2).bind fun bt163 => ((pair_Decode.f k 10 2).bind fun bt167 => ((standstilllaw06_Moves.f).bind fun bt171 => ((pair_Two.f k bt171.1 bt171.2).bind fun bt175 => (if bt161.2 = 0 then (if bt163.2 = 0 then (if bt167.2 = 6 then (if bt175.2.2.2 = 0 then (if bt161.1 = 24 then (if (bt163.1.length : Int) = 2 then (if 0 < (bt163.1.length : Int) then (if (rd bt163.1 0) = 3 then (if 1 < (bt163.1.length : Int) then (if (rd bt163.1 1) = 1 then (if (bt175.2.2.1.length : Int) = 3 then ((standstillref06_Valid.f k bt175.1 bt175.2.1).bind fun t186 => (if t186 = true then (if bt175.1 = 2 then ((standstillref06_Points.f k bt175.1 bt175.2.1 bt175.2.2.1).bind fun t187 => (if t187 = true then (if 0 < (bt175.2.2.1.length : Int) then ((standstillref06_Run.f bt175.1 bt175.2.1 (rd bt175.2.2.1 0) (([8, 0] : List Int)) 100000).bind fun bt192 => (if bt192.2.2.2 = true then (if 2 < (bt175.2.2.1.length : Int) then (if bt192.1 = (rd bt175.2.2.1 2) then ((standstillref06_SameCount.f k bt192.1 bt192.2.1 (rd bt175.2.2.1 2) (([27, 0] : List Int))).bind fun t204 => (some t204)) else (none)) else (none)) else (none))) else (none)) else (none))) else (none)) else (none))) else (none)) else (none)) else (none)) else (none)) else (none)) else (none)) else (none)) else (none)) else (none)) else (none)) else (none))))))
theorem standstilllaw08_awake.mono : ∀ k, LeO (standstilllaw08_awake.f k ) (standstilllaw08_awake.f (k + 1) ) := by
 intro  k
 unfold standstilllaw08_awake.f
 repeat' first
   | (with_reducible exact pair_Decode.mono _ _ _)
   | (with_reducible exact pair_Encode.mono _ _)
   | (with_reducible exact pair_Two.mono _ _ _)
   | (with_reducible exact standstillref06_Points.mono _ _ _ _)
   | (with_reducible exact standstillref06_SameCount.mono _ _ _ _ _)
   | (with_reducible exact standstillref06_Valid.mono _ _ _)
   | (with_reducible exact LeO.refl _)
   | (with_reducible exact LeO.none _)
   | (with_reducible refine LeO.ite ?_ ?_)
   | (with_reducible refine LeO.bind ?_ (fun _ => ?_))
   | exact pair_Decode.mono _ _ _
   | exact pair_Encode.mono _ _
   | exact pair_Two.mono _ _ _
   | exact standstillref06_Points.mono _ _ _ _
   | exact standstillref06_SameCount.mono _ _ _ _ _
   | exact standstillref06_Valid.mono _ _ _
   | exact LeO.none _
   | refine LeO.ite ?_ ?_
   | refine LeO.bind ?_ (fun _ => ?_)
def standstilllaw08_awake.T7 : Bool × List (List Nat × List Nat) := (true, [([], []), ([], []), ([1], [1]), ([2], [2]), ([], []), ([3, 4], [3, 4]), ([0, 5], [0, 5]), ([6], [6]), ([7], [7]), ([7], [7]), ([7], [7]), ([], []), ([11, 8, 6, 0, 1, 2, 3, 4, 5, 6, 7, 8, 11], [8, 11]), ([9, 12, 0, 1, 2, 3, 4, 5, 6, 7, 8, 9, 11, 12], [9]), ([10, 13, 0, 1, 2, 3, 4, 5, 6, 7, 8, 9, 10, 11, 12, 13], [10])])
def standstilllaw08_awake.B7 : List Nat := [0, 0, 2, 6, 0, 30, 63, 127, 255, 255, 255, 0, 2559, 7167, 16383]
theorem standstilllaw08_awake.tab7 : rtab .any (opsOf Try.f7 7) = standstilllaw08_awake.T7 := by kernel_rfl
theorem standstilllaw08_awake.bits7 : waitsOk standstilllaw08_awake.T7.2 standstilllaw08_awake.B7 = true := by kernel_rfl
def standstilllaw08_awake.T8 : Bool × List (List Nat × List Nat) := (true, [([], []), ([0], [0]), ([1], [1]), ([2, 1], [1, 2]), ([1], [1]), ([4, 1], [1, 4]), ([5, 1], [1, 5]), ([3, 6, 1], [1, 3, 6]), ([1, 7], [1, 7]), ([8, 1], [8]), ([9], [9]), ([9], [9]), ([11, 9], [9, 11]), ([12, 9], [9, 12]), ([9], [9]), ([13, 14, 9], [9, 13, 14]), ([10, 15, 9, 9], [9, 10, 15]), ([9, 16], [9, 16]), ([17, 16, 0, 1, 2, 3, 4, 5, 6, 7, 8, 9, 10, 11, 12, 13, 14, 15, 16, 17], [17])])
def standstilllaw08_awake.B8 : List Nat := [0, 1, 3, 7, 3, 19, 51, 127, 255, 511, 1023, 1023, 3071, 7167, 1023, 31743, 65535, 131071, 262143]
theorem standstilllaw08_awake.tab8 : rtab .any (opsOf Try.f7 8) = standstilllaw08_awake.T8 := by kernel_rfl
theorem standstilllaw08_awake.bits8 : waitsOk standstilllaw08_awake.T8.2 standstilllaw08_awake.B8 = true := by kernel_rfl
set_option maxHeartbeats 8000000 in
set_option maxRecDepth 100000 in
theorem standstilllaw08_awake.calls (k : Nat)  (r : Bool) (w : World) (h : standstilllaw08_awake.f k  = some r) :
  Calls Try.prog 7 #[] w fun e w' => e = .returned (.bool r) ∧ Below w.heap.size w w' := by
 have hu38 := Try.underlying38
 have hu47 := Try.underlying47
 have HB := A_ (Below.refl w.heap.size w)
 have H : ((pair_Encode.f k (([3, 1] : List Int))).bind fun bt161 => ((pair_Decode.f k 24 2).bind fun bt163 => ((pair_Decode.f k 10 2).bind fun bt167 => ((standstilllaw06_Moves.f).bind fun bt171 => ((pair_Two.f k bt171.1 bt171.2).bind fun bt175 => (if bt161.2 = 0 then (if bt163.2 = 0 then (if bt167.2 = 6 then (if bt175.2.2.2 = 0 then (if bt161.1 = 24 then (if (bt163.1.length : Int) = 2 then (if 0 < (bt163.1.length : Int) then (if (rd bt163.1 0) = 3 then (if 1 < (bt163.1.length : Int) then (if (rd bt163.1 1) = 1 then (if (bt175.2.2.1.length : Int) = 3 then ((standstillref06_Valid.f k bt175.1 bt175.2.1).bind fun t186 => (if t186 = true then (if bt175.1 = 2 then ((standstillref06_Points.f k bt175.1 bt175.2.1 bt175.2.2.1).bind fun t187 => (if t187 = true then (if 0 < (bt175.2.2.1.length : Int) then ((standstillref06_Run.f bt175.1 bt175.2.1 (rd bt175.2.2.1 0) (([8, 0] : List Int)) 100000).bind fun bt192 => (if bt192.2.2.2 = true then (if 2 < (bt175.2.2.1.length : Int) then (if bt192.1 = (rd bt175.2.2.1 2) then ((standstillref06_SameCount.f k bt192.1 bt192.2.1 (rd bt175.2.2.1 2) (([27, 0] : List Int))).bind fun t204 => (some t204)) else (none)) else (none)) else (none))) else (none)) else (none))) else (none)) else (none))) else (none)) else (none)) else (none)) else (none)) else (none)) else (none)) else (none)) else (none)) else (none)) else (none)) else (none))))))) = some r := h
 clear h
 obtain ⟨y158, hy158⟩ : ∃ y_ : List Int, y_ = (([3, 1] : List Int)) := ⟨_, rfl⟩
 replace H : ((pair_Encode.f k y158).bind fun bt161 => ((pair_Decode.f k 24 2).bind fun bt163 => ((pair_Decode.f k 10 2).bind fun bt167 => ((standstilllaw06_Moves.f).bind fun bt171 => ((pair_Two.f k bt171.1 bt171.2).bind fun bt175 => (if bt161.2 = 0 then (if bt163.2 = 0 then (if bt167.2 = 6 then (if bt175.2.2.2 = 0 then (if bt161.1 = 24 then (if (bt163.1.length : Int) = 2 then (if 0 < (bt163.1.length : Int) then (if (rd bt163.1 0) = 3 then (if 1 < (bt163.1.length : Int) then (if (rd bt163.1 1) = 1 then (if (bt175.2.2.1.length : Int) = 3 then ((standstillref06_Valid.f k bt175.1 bt175.2.1).bind fun t186 => (if t186 = true then (if bt175.1 = 2 then ((standstillref06_Points.f k bt175.1 bt175.2.1 bt175.2.2.1).bind fun t187 => (if t187 = true then (if 0 < (bt175.2.2.1.length : Int) then ((standstillref06_Run.f bt175.1 bt175.2.1 (rd bt175.2.2.1 0) (([8, 0] : List Int)) 100000).bind fun bt192 => (if bt192.2.2.2 = true then (if 2 < (bt175.2.2.1.length : Int) then (if bt192.1 = (rd bt175.2.2.1 2) then ((standstillref06_SameCount.f k bt192.1 bt192.2.1 (rd bt175.2.2.1 2) (([27, 0] : List Int))).bind fun t204 => (some t204)) else (none)) else (none)) else (none))) else (none)) else (none))) else (none)) else (none))) else (none)) else (none)) else (none)) else (none)) else (none)) else (none)) else (none)) else (none)) else (none)) else (none)) else (none))))))) = some r := by first | (rw [hy158]; with_reducible exact H) | (have H2_ := (Option.bind_some _ _).symm.trans H; rw [hy158]; with_reducible exact H2_) | (have H2_ := (Option.bind_some _ _).symm.trans H; with_reducible exact H2_) | with_reducible exact H | (rw [hy158]; exact H) | exact H
 have Ny158 := Aside0.mk hy158
 clear hy158
 replace H := Option.bind_eq_some_iff.mp H
 obtain ⟨⟨t161, t162⟩, A10, H⟩ := H
 replace H : ((pair_Decode.f k 24 2).bind fun bt163 => ((pair_Decode.f k 10 2).bind fun bt167 => ((standstilllaw06_Moves.f).bind fun bt171 => ((pair_Two.f k bt171.1 bt171.2).bind fun bt175 => (if t162 = 0 then (if bt163.2 = 0 then (if bt167.2 = 6 then (if bt175.2.2.2 = 0 then (if t161 = 24 then (if (bt163.1.length : Int) = 2 then (if 0 < (bt163.1.length : Int) then (if (rd bt163.1 0) = 3 then (if 1 < (bt163.1.length : Int) then (if (rd bt163.1 1) = 1 then (if (bt175.2.2.1.length : Int) = 3 then ((standstillref06_Valid.f k bt175.1 bt175.2.1).bind fun t186 => (if t186 = true then (if bt175.1 = 2 then ((standstillref06_Points.f k bt175.1 bt175.2.1 bt175.2.2.1).bind fun t187 => (if t187 = true then (if 0 < (bt175.2.2.1.length : Int) then ((standstillref06_Run.f bt175.1 bt175.2.1 (rd bt175.2.2.1 0) (([8, 0] : List Int)) 100000).bind fun bt192 => (if bt192.2.2.2 = true then (if 2 < (bt175.2.2.1.length : Int) then (if bt192.1 = (rd bt175.2.2.1 2) then ((standstillref06_SameCount.f k bt192.1 bt192.2.1 (rd bt175.2.2.1 2) (([27, 0] : List Int))).bind fun t204 => (some t204)) else (none)) else (none)) else (none))) else (none)) else (none))) else (none)) else (none))) else (none)) else (none)) else (none)) else (none)) else (none)) else (none)) else (none)) else (none)) else (none)) else (none)) else (none)))))) = some r := H
 have A1 := Aside0.mk A10
 clear A10
 replace H := Option.bind_eq_some_iff.mp H
 obtain ⟨⟨t163, t164⟩, A20, H⟩ := H
 replace H : ((pair_Decode.f k 10 2).bind fun bt167 => ((standstilllaw06_Moves.f).bind fun bt171 => ((pair_Two.f k bt171.1 bt171.2).bind fun bt175 => (if t162 = 0 then (if t164 = 0 then (if bt167.2 = 6 then (if bt175.2.2.2 = 0 then (if t161 = 24 then (if (t163.length : Int) = 2 then (if 0 < (t163.length : Int) then (if (rd t163 0) = 3 then (if 1 < (t163.length : Int) then (if (rd t163 1) = 1 then (if (bt175.2.2.1.length : Int) = 3 then ((standstillref06_Valid.f k bt175.1 bt175.2.1).bind fun t186 => (if t186 = true then (if bt175.1 = 2 then ((standstillref06_Points.f k bt175.1 bt175.2.1 bt175.2.2.1).bind fun t187 => (if t187 = true then (if 0 < (bt175.2.2.1.length : Int) then ((standstillref06_Run.f bt175.1 bt175.2.1 (rd bt175.2.2.1 0) (([8, 0] : List Int)) 100000).bind fun bt192 => (if bt192.2.2.2 = true then (if 2 < (bt175.2.2.1.length : Int) then (if bt192.1 = (rd bt175.2.2.1 2) then ((standstillref06_SameCount.f k bt192.1 bt192.2.1 (rd bt175.2.2.1 2) (([27, 0] : List Int))).bind fun t204 => (some t204)) else (none)) else (none)) else (none))) else (none)) else (none))) else (none)) else (none))) else (none)) else (none)) else (none)) else (none)) else (none)) else (none)) else (none)) else (none)) else (none)) else (none)) else (none))))) = some r := H
 have A2 := Aside0.mk A20
 clear A20
 replace H := Option.bind_eq_some_iff.mp H
 obtain ⟨⟨t167, t168⟩, A30, H⟩ := H
 replace H : ((standstilllaw06_Moves.f).bind fun bt171 => ((pair_Two.f k bt171.1 bt171.2).bind fun bt175 => (if t162 = 0 then (if t164 = 0 then (if t168 = 6 then (if bt175.2.2.2 = 0 then (if t161 = 24 then (if (t163.length : Int) = 2 then (if 0 < (t163.length : Int) then (if (rd t163 0) = 3 then (if 1 < (t163.length : Int) then (if (rd t163 1) = 1 then (if (bt175.2.2.1.length : Int) = 3 then ((standstillref06_Valid.f k bt175.1 bt175.2.1).bind fun t186 => (if t186 = true then (if bt175.1 = 2 then ((standstillref06_Points.f k bt175.1 bt175.2.1 bt175.2.2.1).bind fun t187 => (if t187 = true then (if 0 < (bt175.2.2.1.length : Int) then ((standstillref06_Run.f bt175.1 bt175.2.1 (rd bt175.2.2.1 0) (([8, 0] : List Int)) 100000).bind fun bt192 => (if bt192.2.2.2 = true then (if 2 < (bt175.2.2.1.length : Int) then (if bt192.1 = (rd bt175.2.2.1 2) then ((standstillref06_SameCount.f k bt192.1 bt192.2.1 (rd bt175.2.2.1 2) (([27, 0] : List Int))).bind fun t204 => (some t204)) else (none)) else (none)) else (none))) else (none)) else (none))) else (none)) else (none))) else (none)) else (none)) else (none)) else (none)) else (none)) else (none)) else (none)) else (none)) else (none)) else (none)) else (none)))) = some r := H
 have A3 := Aside0.mk A30
 clear A30
 replace H := Option.bind_eq_some_iff.mp H
 obtain ⟨⟨t171, t172⟩, A40, H⟩ := H
 replace H : ((pair_Two.f k t171 t172).bind fun bt175 => (if t162 = 0 then (if t164 = 0 then (if t168 = 6 then (if bt175.2.2.2 = 0 then (if t161 = 24 then (if (t163.length : Int) = 2 then (if 0 < (t163.length : Int) then (if (rd t163 0) = 3 then (if 1 < (t163.length : Int) then (if (rd t163 1) = 1 then (if (bt175.2.2.1.length : Int) = 3 then ((standstillref06_Valid.f k bt175.1 bt175.2.1).bind fun t186 => (if t186 = true then (if bt175.1 = 2 then ((standstillref06_Points.f k bt175.1 bt175.2.1 bt175.2.2.1).bind fun t187 => (if t187 = true then (if 0 < (bt175.2.2.1.length : Int) then ((standstillref06_Run.f bt175.1 bt175.2.1 (rd bt175.2.2.1 0) (([8, 0] : List Int)) 100000).bind fun bt192 => (if bt192.2.2.2 = true then (if 2 < (bt175.2.2.1.length : Int) then (if bt192.1 = (rd bt175.2.2.1 2) then ((standstillref06_SameCount.f k bt192.1 bt192.2.1 (rd bt175.2.2.1 2) (([27, 0] : List Int))).bind fun t204 => (some t204)) else (none)) else (none)) else (none))) else (none)) else (none))) else (none)) else (none))) else (none)) else (none)) else (none)) else (none)) else (none)) else (none)) else (none)) else (none)) else (none)) else (none)) else (none))) = some r := H
 have A4 := Aside0.mk A40
 clear A40
 replace H := Option.bind_eq_some_iff.mp H
 obtain ⟨⟨t175, t176, t179, t182⟩, A50, H⟩ := H
 replace H : (if t162 = 0 then (if t164 = 0 then (if t168 = 6 then (if t182 = 0 then (if t161 = 24 then (if (t163.length : Int) = 2 then (if 0 < (t163.length : Int) then (if (rd t163 0) = 3 then (if 1 < (t163.length : Int) then (if (rd t163 1) = 1 then (if (t179.length : Int) = 3 then ((standstillref06_Valid.f k t175 t176).bind fun t186 => (if t186 = true then (if t175 = 2 then ((standstillref06_Points.f k t175 t176 t179).bind fun t187 => (if t187 = true then (if 0 < (t179.length : Int) then ((standstillref06_Run.f t175 t176 (rd t179 0) (([8, 0] : List Int)) 100000).bind fun bt192 => (if bt192.2.2.2 = true then (if 2 < (t179.length : Int) then (if bt192.1 = (rd t179 2) then ((standstillref06_SameCount.f k bt192.1 bt192.2.1 (rd t179 2) (([27, 0] : List Int))).bind fun t204 => (some t204)) else (none)) else (none)) else (none))) else (none)) else (none))) else (none)) else (none))) else (none)) else (none)) else (none)) else (none)) else (none)) else (none)) else (none)) else (none)) else (none)) else (none)) else (none)) = some r := H
 have A5 := Aside0.mk A50
 clear A50
 by_cases c6 : t162 = 0
 ·rw [if_pos c6] at H
  have c6b0 : (t162 == 0) = true := beq_iff_eq.mpr c6
  have c6b1 : (t162 != 0) = false := bne_eq_false_iff_eq.mpr c6
  clear c6
  by_cases c7 : t164 = 0
  ·rw [if_pos c7] at H
   have c7b0 : (t164 == 0) = true := beq_iff_eq.mpr c7
   have c7b1 : (t164 != 0) = false := bne_eq_false_iff_eq.mpr c7
   clear c7
   by_cases c8 : t168 = 6
   ·rw [if_pos c8] at H
    have c8b0 : (t168 == 6) = true := beq_iff_eq.mpr c8
    have c8b1 : (t168 != 6) = false := bne_eq_false_iff_eq.mpr c8
    clear c8
    by_cases c9 : t182 = 0
    ·rw [if_pos c9] at H
     have c9b0 : (t182 == 0) = true := beq_iff_eq.mpr c9
     have c9b1 : (t182 != 0) = false := bne_eq_false_iff_eq.mpr c9
     clear c9
     by_cases c10 : t161 = 24
     ·rw [if_pos c10] at H
      have c10b0 : (t161 == 24) = true := beq_iff_eq.mpr c10
      have c10b1 : (t161 != 24) = false := bne_eq_false_iff_eq.mpr c10
      clear c10
      by_cases c11 : (t163.length : Int) = 2
      ·rw [if_pos c11] at H
       have c11b0 : ((t163.length : Int) == 2) = true := beq_iff_eq.mpr c11
       have c11b1 : ((t163.length : Int) != 2) = false := bne_eq_false_iff_eq.mpr c11
       clear c11
       by_cases c12 : 0 < (t163.length : Int)
       ·rw [if_pos c12] at H
        have c12b0 : decide (0 < (t163.length : Int)) = true := decide_eq_true c12
        have c12b1 : decide (0 < t163.length) = true := decide_eq_true (by omega)
        clear c12
        by_cases c13 : (rd t163 0) = 3
        ·rw [if_pos c13] at H
         have c13b0 : ((rd t163 0) == 3) = true := beq_iff_eq.mpr c13
         have c13b1 : ((rd t163 0) != 3) = false := bne_eq_false_iff_eq.mpr c13
         clear c13
         by_cases c14 : 1 < (t163.length : Int)
         ·rw [if_pos c14] at H
          have c14b0 : decide (1 < (t163.length : Int)) = true := decide_eq_true c14
          have c14b1 : decide (1 < t163.length) = true := decide_eq_true (by omega)
          clear c14
          by_cases c15 : (rd t163 1) = 1
          ·rw [if_pos c15] at H
           have c15b0 : ((rd t163 1) == 1) = true := beq_iff_eq.mpr c15
           have c15b1 : ((rd t163 1) != 1) = false := bne_eq_false_iff_eq.mpr c15
           clear c15
           by_cases c16 : (t179.length : Int) = 3
           ·rw [if_pos c16] at H
            have c16b0 : ((t179.length : Int) == 3) = true := beq_iff_eq.mpr c16
            have c16b1 : ((t179.length : Int) != 3) = false := bne_eq_false_iff_eq.mpr c16
            clear c16
            replace H := Option.bind_eq_some_iff.mp H
            obtain ⟨t186, A170, H⟩ := H
            replace H : (if t186 = true then (if t175 = 2 then ((standstillref06_Points.f k t175 t176 t179).bind fun t187 => (if t187 = true then (if 0 < (t179.length : Int) then ((standstillref06_Run.f t175 t176 (rd t179 0) (([8, 0] : List Int)) 100000).bind fun bt192 => (if bt192.2.2.2 = true then (if 2 < (t179.length : Int) then (if bt192.1 = (rd t179 2) then ((standstillref06_SameCount.f k bt192.1 bt192.2.1 (rd t179 2) (([27, 0] : List Int))).bind fun t204 => (some t204)) else (none)) else (none)) else (none))) else (none)) else (none))) else (none)) else (none)) = some r := H
            have A17 := Aside0.mk A170
            clear A170
            by_cases c18 : t186 = true
            ·subst c18
             have H1 : (if t175 = 2 then ((standstillref06_Points.f k t175 t176 t179).bind fun t187 => (if t187 = true then (if 0 < (t179.length : Int) then ((standstillref06_Run.f t175 t176 (rd t179 0) (([8, 0] : List Int)) 100000).bind fun bt192 => (if bt192.2.2.2 = true then (if 2 < (t179.length : Int) then (if bt192.1 = (rd t179 2) then ((standstillref06_SameCount.f k bt192.1 bt192.2.1 (rd t179 2) (([27, 0] : List Int))).bind fun t204 => (some t204)) else (none)) else (none)) else (none))) else (none)) else (none))) else (none)) = some r := by rw [if_pos rfl] at H; exact H
             clear H
             have H := H1
             clear H1
             by_cases c19 : t175 = 2
             ·rw [if_pos c19] at H
              have c19b0 : (t175 == 2) = true := beq_iff_eq.mpr c19
              have c19b1 : (t175 != 2) = false := bne_eq_false_iff_eq.mpr c19
              clear c19
              replace H := Option.bind_eq_some_iff.mp H
              obtain ⟨t187, A200, H⟩ := H
              replace H : (if t187 = true then (if 0 < (t179.length : Int) then ((standstillref06_Run.f t175 t176 (rd t179 0) (([8, 0] : List Int)) 100000).bind fun bt192 => (if bt192.2.2.2 = true then (if 2 < (t179.length : Int) then (if bt192.1 = (rd t179 2) then ((standstillref06_SameCount.f k bt192.1 bt192.2.1 (rd t179 2) (([27, 0] : List Int))).bind fun t204 => (some t204)) else (none)) else (none)) else (none))) else (none)) else (none)) = some r := H
              have A20 := Aside0.mk A200
              clear A200
              by_cases c21 : t187 = true
              ·subst c21
               have H1 : (if 0 < (t179.length : Int) then ((standstillref06_Run.f t175 t176 (rd t179 0) (([8, 0] : List Int)) 100000).bind fun bt192 => (if bt192.2.2.2 = true then (if 2 < (t179.length : Int) then (if bt192.1 = (rd t179 2) then ((standstillref06_SameCount.f k bt192.1 bt192.2.1 (rd t179 2) (([27, 0] : List Int))).bind fun t204 => (some t204)) else (none)) else (none)) else (none))) else (none)) = some r := by rw [if_pos rfl] at H; exact H
               clear H
               have H := H1
               clear H1
               by_cases c22 : 0 < (t179.length : Int)
               ·rw [if_pos c22] at H
                have c22b0 : decide (0 < (t179.length : Int)) = true := decide_eq_true c22
                have c22b1 : decide (0 < t179.length) = true := decide_eq_true (by omega)
                clear c22
                obtain ⟨y189, hy189⟩ : ∃ y_ : List Int, y_ = (([8, 0] : List Int)) := ⟨_, rfl⟩
                replace H : ((standstillref06_Run.f t175 t176 (rd t179 0) y189 100000).bind fun bt192 => (if bt192.2.2.2 = true then (if 2 < (t179.length : Int) then (if bt192.1 = (rd t179 2) then ((standstillref06_SameCount.f k bt192.1 bt192.2.1 (rd t179 2) (([27, 0] : List Int))).bind fun t204 => (some t204)) else (none)) else (none)) else (none))) = some r := by first | (rw [hy189]; with_reducible exact H) | (have H2_ := (Option.bind_some _ _).symm.trans H; rw [hy189]; with_reducible exact H2_) | (have H2_ := (Option.bind_some _ _).symm.trans H; with_reducible exact H2_) | with_reducible exact H | (rw [hy189]; exact H) | exact H
                have Ny189 := Aside0.mk hy189
                clear hy189
                replace H := Option.bind_eq_some_iff.mp H
                obtain ⟨⟨t192, t193, t196, t197⟩, A230, H⟩ := H
                replace H : (if t197 = true then (if 2 < (t179.length : Int) then (if t192 = (rd t179 2) then ((standstillref06_SameCount.f k t192 t193 (rd t179 2) (([27, 0] : List Int))).bind fun t204 => (some t204)) else (none)) else (none)) else (none)) = some r := H
                have A23 := Aside0.mk A230
                clear A230
                by_cases c24 : t197 = true
                ·subst c24
                 have H1 : (if 2 < (t179.length : Int) then (if t192 = (rd t179 2) then ((standstillref06_SameCount.f k t192 t193 (rd t179 2) (([27, 0] : List Int))).bind fun t204 => (some t204)) else (none)) else (none)) = some r := by rw [if_pos rfl] at H; exact H
                 clear H
                 have H := H1
                 clear H1
                 by_cases c25 : 2 < (t179.length : Int)
                 ·rw [if_pos c25] at H
                  have c25b0 : decide (2 < (t179.length : Int)) = true := decide_eq_true c25
                  have c25b1 : decide (2 < t179.length) = true := decide_eq_true (by omega)
                  clear c25
                  by_cases c26 : t192 = (rd t179 2)
                  ·rw [if_pos c26] at H
                   have c26b0 : (t192 == (rd t179 2)) = true := beq_iff_eq.mpr c26
                   have c26b1 : (t192 != (rd t179 2)) = false := bne_eq_false_iff_eq.mpr c26
                   clear c26
                   obtain ⟨y201, hy201⟩ : ∃ y_ : List Int, y_ = (([27, 0] : List Int)) := ⟨_, rfl⟩
                   replace H : ((standstillref06_SameCount.f k t192 t193 (rd t179 2) y201).bind fun t204 => (some t204)) = some r := by first | (rw [hy201]; with_reducible exact H) | (have H2_ := (Option.bind_some _ _).symm.trans H; rw [hy201]; with_reducible exact H2_) | (have H2_ := (Option.bind_some _ _).symm.trans H; with_reducible exact H2_) | with_reducible exact H | (rw [hy201]; exact H) | exact H
                   have Ny201 := Aside0.mk hy201
                   clear hy201
                   replace H := Option.bind_eq_some_iff.mp H
                   obtain ⟨t204, A270, H⟩ := H
                   replace H : (some t204) = some r := H
                   have A27 := Aside0.mk A270
                   clear A270
                   obtain rfl := Option.some.inj H
                   go_enter Try.func7, Try.ntmps7
                   try go_wp2_with (first | ((with_reducible refine gate_dst (N := 14) rfl ?_); (try (refine gate_guard (by rfl) ?_; dsimp only)); refine Kd.R_lit (Kd.int .i64) _ 3 ?hg (N := 14) ?hd (xs := ([3, 1] : List Int)) (inner := [.int .i64 3, .int .i64 1]) (ok := fun _ => True) (okp := fun _ => True) ?hr ?hp (fun _ hk => hk) trivial (Below.refl _ _) (Nat.le_refl _) (by simp) ?_; (case hd => rfl); (case hg => rfl); (case hr => first | (go_simp; done) | (go_simp; rfl)); (case hp => exact (Reps.one (show Kd.M (Kd.int .i64) _ _ _ 3 [.int .i64 3] from rfl) (Reps.one (show Kd.M (Kd.int .i64) _ _ _ 1 [.int .i64 1] from rfl) (Reps.none _ _)))); intro v159 w28 ho29 hb hg_ hnew_; clear hg_ hnew_; (first | rw [← Ny158.out] at ho29 | (simp only [Int.reduceToNat] at ho29; rw [← Ny158.out] at ho29)); have n0_ := A_ (Kd.R_lower ho29 (below_size (bk_ HB.out))); have n1_ := A_ (below_step (bk_ HB.out) hb); clear HB; have HO160 := n0_; have HB := n1_; clear n0_ n1_ hb ho29; obtain ⟨Ao30, co30, eo30⟩ := Kd.R_slice HO160.out; subst eo30) | ((with_reducible refine gate_callee (f := 8) rfl ?_); refine goesL_ (some 15) rfl rfl Try.func8 (by kernel_rfl) rfl #[.slice Ao30 y158.length co30] rfl gl_ ?_; (with_reducible refine (pair_Encode.calls k _ _ y158 t161 t162 _ ?side1 ?side2 A1.out).mono ?_); (case side1 => repeat (first | exact (Kd.R_reads' HO160.out).2.2 | (with_reducible refine Kd.C_alloc ?_ _) | (with_reducible refine Kd.C_drewN ?_ _) | (with_reducible refine Kd.C_drew ?_))); (case side2 => exact (Kd.R_reads' HO160.out).2.1); rintro e w31 ⟨rfl, hb⟩; refine ⟨_, rfl, ?_⟩; have n0_ := A_ (Kd.R_below (rk_ HO160.out) hb); have n1_ := A_ (below_step (bk_ HB.out) hb); clear HO160 HB; have HO160 := n0_; have HB := n1_; clear n0_ n1_; (try clear hb); (try clear hb2); (try clear hk); (try clear hi)) | ((with_reducible refine gate_callee (f := 9) rfl ?_); refine goesL_ (some 19) rfl rfl Try.func9 (by kernel_rfl) rfl #[.int .i64 24, .int .i64 2] rfl gl_ ?_; (with_reducible refine (pair_Decode.calls k 24 2 t163 t164 _ A2.out).mono ?_); rintro e w32 ⟨v165, rfl, ho0, hb⟩; refine ⟨_, rfl, ?_⟩; have n0_ := A_ (Kd.R_elder' (rk_ HO160.out) (Kd.R_base ho0) hb); have n1_ := A_ (Kd.R_lower (Kd.R_new' ho0 (Kd.R_lt (rk_ HO160.out))) (below_size (bk_ HB.out))); have n2_ := A_ (below_step (bk_ HB.out) hb); clear HO160 HB; have HO160 := n0_; have HO166 := n1_; have HB := n2_; clear n0_ n1_ n2_; (try clear hb); (try clear hb2); (try clear hk); (try clear hi); (try clear ho0)) | ((with_reducible refine gate_callee (f := 9) rfl ?_); refine goesL_ (some 23) rfl rfl Try.func9 (by kernel_rfl) rfl #[.int .i64 10, .int .i64 2] rfl gl_ ?_; (with_reducible refine (pair_Decode.calls k 10 2 t167 t168 _ A3.out).mono ?_); rintro e w33 ⟨v169, rfl, ho0, hb⟩; refine ⟨_, rfl, ?_⟩; have n0_ := A_ (Kd.R_elder' (rk_ HO160.out) (Kd.R_base ho0) hb); have n1_ := A_ (Kd.R_elder' (rk_ HO166.out) (Kd.R_base ho0) hb); have n2_ := A_ (Kd.R_lower (Kd.R_new' (Kd.R_new' ho0 (Kd.R_lt (rk_ HO160.out))) (Kd.R_lt (rk_ HO166.out))) (below_size (bk_ HB.out))); have n3_ := A_ (below_step (bk_ HB.out) hb); clear HO160 HO166 HB; have HO160 := n0_; have HO166 := n1_; have HO170 := n2_; have HB := n3_; clear n0_ n1_ n2_ n3_; (try clear hb); (try clear hb2); (try clear hk); (try clear hi); (try clear ho0)) | ((with_reducible refine gate_callee (f := 20) rfl ?_); refine goesL_ (some 27) rfl rfl Try.func20 (by kernel_rfl) rfl #[] rfl gl_ ?_; (with_reducible refine (standstilllaw06_Moves.calls  t171 t172 _ A4.out).mono ?_); rintro e w34 ⟨v173, rfl, ho0, hb⟩; refine ⟨_, rfl, ?_⟩; have n0_ := A_ (Kd.R_below (rk_ HO160.out) hb); have n1_ := A_ (Kd.R_below (rk_ HO166.out) hb); have n2_ := A_ (Kd.R_below (rk_ HO170.out) hb); have n3_ := A_ (Kd.R_lower ho0 (below_size (bk_ HB.out))); have n4_ := A_ (below_step (bk_ HB.out) hb); clear HO160 HO166 HO170 HB; have HO160 := n0_; have HO166 := n1_; have HO170 := n2_; have HO174 := n3_; have HB := n4_; clear n0_ n1_ n2_ n3_ n4_; (try clear hb); (try clear hb2); (try clear hk); (try clear hi); (try clear ho0); obtain ⟨Ao35, co35, eo35⟩ := Kd.R_slice HO174.out; subst eo35) | ((with_reducible refine gate_callee (f := 14) rfl ?_); refine goesL_ (some 28) rfl rfl Try.func14 (by kernel_rfl) rfl #[.agg #[.int .i64 t171, .slice Ao35 t172.length co35]] rfl gl_ ?_; (with_reducible refine (pair_Two.calls k t171 _ _ t172 t175 t176 t179 t182 _ ?side1 ?side2 A5.out).mono ?_); (case side1 => repeat (first | exact (Kd.R_reads' HO174.out).2.2 | (with_reducible refine Kd.C_alloc ?_ _) | (with_reducible refine Kd.C_drewN ?_ _) | (with_reducible refine Kd.C_drew ?_))); (case side2 => exact (Kd.R_reads' HO174.out).2.1); rintro e w36 ⟨v177, v180, rfl, ho0, ho1, hb⟩; refine ⟨_, rfl, ?_⟩; have n0_ := A_ (Kd.R_elder' (rk_ HO160.out) (Kd.R_base ho1) hb); have n1_ := A_ (Kd.R_elder' (rk_ HO166.out) (Kd.R_base ho1) hb); have n2_ := A_ (Kd.R_elder' (rk_ HO170.out) (Kd.R_base ho1) hb); have n3_ := A_ (Kd.R_elder' (rk_ HO174.out) (Kd.R_base ho0) hb); have n4_ := A_ (Kd.R_lower (Kd.R_new' ho0 (Kd.R_lt (rk_ HO174.out))) (below_size (bk_ HB.out))); have n5_ := A_ (Kd.R_lower (Kd.R_new' (Kd.R_new' (Kd.R_new' ho1 (Kd.R_lt (rk_ HO160.out))) (Kd.R_lt (rk_ HO166.out))) (Kd.R_lt (rk_ HO170.out))) (below_size (bk_ HB.out))); have n6_ := A_ (below_step (bk_ HB.out) hb); clear HO160 HO166 HO170 HO174 HB; have HO160 := n0_; have HO166 := n1_; have HO170 := n2_; have HO174 := n3_; have HO178 := n4_; have HO181 := n5_; have HB := n6_; clear n0_ n1_ n2_ n3_ n4_ n5_ n6_; (try clear hb); (try clear hb2); (try clear hk); (try clear hi); (try clear ho0); (try clear ho1)) | ((with_reducible refine gate_dst (N := 7) rfl ?_); (try (refine gate_guard (by rfl) ?_; dsimp only)); refine box_event ?hg (N := 7) ?hd (cs := #[.int .i64 0, .slice none 0 0]) (t := 38) ?hr ?_; (case hd => rfl); (case hg => rfl); (case hr => first | (go_simp; done) | (go_simp; rfl)); intro gb183 hg w37 hbox hb; have n0_ := A_ (Kd.R_below (rk_ HO160.out) hb); have n1_ := A_ (Kd.R_below (rk_ HO166.out) hb); have n2_ := A_ (Kd.R_below (rk_ HO170.out) hb); have n3_ := A_ (Kd.R_below (rk_ HO174.out) hb); have n4_ := A_ (Kd.R_below (rk_ HO178.out) hb); have n5_ := A_ (Kd.R_below (rk_ HO181.out) hb); have n6_ := A_ (below_step (bk_ HB.out) hb); have n7_ := A_ (hbox); have n8_ := A_ (bz_ hg (bk_ HB.out)); have n9_ := A_ (bz_ hg (bk_ HB.out)); clear HO160 HO166 HO170 HO174 HO178 HO181 HB; have HO160 := n0_; have HO166 := n1_; have HO170 := n2_; have HO174 := n3_; have HO178 := n4_; have HO181 := n5_; have HB := n6_; have BK183 := n7_; have GW183 := n8_; have GE183 := n9_; clear n0_ n1_ n2_ n3_ n4_ n5_ n6_ n7_ n8_ n9_ hb hbox hg; obtain ⟨hcz38_0, hcz38_1⟩ := bc2_ BK183.out; have hfz38_0 := blk_frozen BK183.out 0; have hfz38_1 := blk_frozen BK183.out 1; obtain ⟨Ao39, co39, eo39⟩ := Kd.R_slice HO178.out; subst eo39; obtain ⟨Ao40, co40, eo40⟩ := Kd.R_slice HO166.out; subst eo40; have p184 : 0 ≤ (0 : Int) := (by omega); have q184 : 0 < (t163.length : Int) := od_; obtain ⟨ad184, e184, hx184_0⟩ := Kd.at_int (Kd.R_reads' HO166.out).2.2 0 p184 q184; cases e184; have qi184 : (0 < t163.length) = True := eq_true (by omega); (try rw [show ((0 : Int)).toNat = 0 from rfl] at hx184_0); (try rw [Addr.add_zero'] at hx184_0); have hn184_0 : ad184.block ≠ gb183 := Kd.own_blk (Kd.R_ne HO166.out BK183.out (by decide)); have hn184_1 : ad184.block ≠ gb183 := Kd.own_blk (Kd.R_ne HO166.out BK183.out (by decide)); replace hx184_0 := (cell_far (p := ⟨gb183, 0, none⟩) (by first | (rw [add_block]; exact hn184_0) | (show (Addr.add _ _).block ≠ _; rw [add_block]; exact hn184_0) | exact hn184_0) (.int .i64 t175)).trans hx184_0; replace hx184_0 := (cell_far (p := ⟨gb183, 1, none⟩) (by first | (rw [add_block]; exact hn184_1) | (show (Addr.add _ _).block ≠ _; rw [add_block]; exact hn184_1) | exact hn184_1) (.slice Ao39 t176.length co39)).trans hx184_0; clear hn184_0 hn184_1; replace p184 := eq_true p184; replace q184 := eq_true q184; have p185 : 0 ≤ (1 : Int) := (by omega); have q185 : 1 < (t163.length : Int) := od_; obtain ⟨ad185, e185, hx185_0⟩ := Kd.at_int (Kd.R_reads' HO166.out).2.2 1 p185 q185; obtain rfl : ad184 = ad185 := (by injection e185); (try simp only [show (1 : Int).toNat = 1 from rfl, Nat.reduceMul, Nat.reduceEqDiff, Go.Addr.add, ↓reduceIte] at hx185_0); have qi185 : (1 < t163.length) = True := eq_true (by omega); (try rw [show ((1 : Int)).toNat = 1 from rfl] at hx185_0); have hn185_0 : ad184.block ≠ gb183 := Kd.own_blk (Kd.R_ne HO166.out BK183.out (by decide)); have hn185_1 : ad184.block ≠ gb183 := Kd.own_blk (Kd.R_ne HO166.out BK183.out (by decide)); replace hx185_0 := (cell_far (p := ⟨gb183, 0, none⟩) (by first | (rw [add_block]; exact hn185_0) | (show (Addr.add _ _).block ≠ _; rw [add_block]; exact hn185_0) | exact hn185_0) (.int .i64 t175)).trans hx185_0; replace hx185_0 := (cell_far (p := ⟨gb183, 1, none⟩) (by first | (rw [add_block]; exact hn185_1) | (show (Addr.add _ _).block ≠ _; rw [add_block]; exact hn185_1) | exact hn185_1) (.slice Ao39 t176.length co39)).trans hx185_0; clear hn185_0 hn185_1; replace p185 := eq_true p185; replace q185 := eq_true q185; obtain ⟨Ao41, co41, eo41⟩ := Kd.R_slice HO181.out; subst eo41) | (go_at_call 15; (with_reducible refine (standstillref06_Valid.calls k t175 _ _ t176 true _ ?side1 ?side2 A17.out).mono ?_); (case side1 => refine (Kd.R_reads' (e := 45) (base := w.heap.size) (ok := fun k_ => (True ∧ some k_ ≠ (.slice Ao35 t172.length co35 : Value).ownBlock)) (n := t176.length) (c := co39) ?_).2.2; exact (rz_ HO178.out BK183.out)); (case side2 => exact (Kd.R_reads' HO178.out).2.1); rintro e w42 ⟨rfl, hb⟩; have n0_ := A_ (Kd.R_below (rz_ HO160.out BK183.out) hb); have n1_ := A_ (Kd.R_below (rz_ HO166.out BK183.out) hb); have n2_ := A_ (Kd.R_below (rz_ HO170.out BK183.out) hb); have n3_ := A_ (Kd.R_below (rz_ HO174.out BK183.out) hb); have n4_ := A_ (Kd.R_below (rz_ HO178.out BK183.out) hb); have n5_ := A_ (Kd.R_below (rz_ HO181.out BK183.out) hb); have n6_ := A_ (blk_below (g := gb183) (o := .cells #[.int .i64 t175, .slice Ao39 t176.length co39] 38 (0, 0)) (by refine pk_ ?_; refine blk_put (cs := #[.int .i64 t175, .slice none 0 0]) ?_ 1 _ rfl; refine pk_ ?_; refine blk_put (cs := #[.int .i64 0, .slice none 0 0]) ?_ 0 _ rfl; exact pk_ BK183.out) hb); have n7_ := A_ (below_step (bk_ HB.out) hb); clear HO160 HO166 HO170 HO174 HO178 HO181 BK183 HB; have HO160 := n0_; have HO166 := n1_; have HO170 := n2_; have HO174 := n3_; have HO178 := n4_; have HO181 := n5_; have BK183 := n6_; have HB := n7_; clear n0_ n1_ n2_ n3_ n4_ n5_ n6_ n7_; (try clear hb); (try clear hb2); (try clear hk); (try clear hi); obtain ⟨hcz43_0, hcz43_1⟩ := bc2_ BK183.out; have hfz43_0 := blk_frozen BK183.out 0; have hfz43_1 := blk_frozen BK183.out 1) | (go_at_call 17; (with_reducible refine (standstillref06_Points.calls k t175 _ _ t176 _ _ t179 true _ ?side1 ?side2 ?side3 ?side4 A20.out).mono ?_); (case side1 => repeat (first | exact (Kd.R_reads' HO178.out).2.2 | (with_reducible refine Kd.C_alloc ?_ _) | (with_reducible refine Kd.C_drewN ?_ _) | (with_reducible refine Kd.C_drew ?_))); (case side2 => exact (Kd.R_reads' HO178.out).2.1); (case side3 => repeat (first | exact (Kd.R_reads' HO181.out).2.2 | (with_reducible refine Kd.C_alloc ?_ _) | (with_reducible refine Kd.C_drewN ?_ _) | (with_reducible refine Kd.C_drew ?_))); (case side4 => exact (Kd.R_reads' HO181.out).2.1); rintro e w44 ⟨rfl, hb⟩; have n0_ := A_ (Kd.R_below (rk_ HO160.out) hb); have n1_ := A_ (Kd.R_below (rk_ HO166.out) hb); have n2_ := A_ (Kd.R_below (rk_ HO170.out) hb); have n3_ := A_ (Kd.R_below (rk_ HO174.out) hb); have n4_ := A_ (Kd.R_below (rk_ HO178.out) hb); have n5_ := A_ (Kd.R_below (rk_ HO181.out) hb); have n6_ := A_ (blk_below (pk_ BK183.out) hb); have n7_ := A_ (below_step (bk_ HB.out) hb); clear HO160 HO166 HO170 HO174 HO178 HO181 BK183 HB; have HO160 := n0_; have HO166 := n1_; have HO170 := n2_; have HO174 := n3_; have HO178 := n4_; have HO181 := n5_; have BK183 := n6_; have HB := n7_; clear n0_ n1_ n2_ n3_ n4_ n5_ n6_ n7_; (try clear hb); (try clear hb2); (try clear hk); (try clear hi)))
                   have n0_ := A_ (Kd.R_drew HO160.out)
                   have n1_ := A_ (Kd.R_drew HO166.out)
                   have n2_ := A_ (Kd.R_drew HO170.out)
                   have n3_ := A_ (Kd.R_drew HO174.out)
                   have n4_ := A_ (Kd.R_drew HO178.out)
                   have n5_ := A_ (Kd.R_drew HO181.out)
                   have n6_ := A_ (blk_drew BK183.out)
                   have n7_ := A_ (below_drew1 HB.out)
                   clear HO160 HO166 HO170 HO174 HO178 HO181 BK183 HB
                   have HO160 := n0_
                   have HO166 := n1_
                   have HO170 := n2_
                   have HO174 := n3_
                   have HO178 := n4_
                   have HO181 := n5_
                   have BK183 := n6_
                   have HB := n7_
                   clear n0_ n1_ n2_ n3_ n4_ n5_ n6_ n7_
                   have p188 : 0 ≤ (0 : Int) := (by omega)
                   have q188 : 0 < (t179.length : Int) := od_
                   obtain ⟨ad188, e188, hx188_0⟩ := Kd.at_int (Kd.R_reads' HO181.out).2.2 0 p188 q188
                   cases e188
                   have qi188 : (0 < t179.length) = True := eq_true (by omega)
                   (try rw [show ((0 : Int)).toNat = 0 from rfl] at hx188_0)
                   (try rw [Addr.add_zero'] at hx188_0)
                   replace p188 := eq_true p188
                   replace q188 := eq_true q188
                   refine start_ (n := 15) (S := fun w' => w'.cell? ⟨gb183, 0, none⟩ = some (.int .i64 t175) ∧ w'.cell? ⟨gb183, 1, none⟩ = some (.slice Ao39 t176.length co39) ∧ w'.cell? ad188 = some (.int .i64 (rd t179 0))) (ds := []) #[false, false, false, false, false, false, false, false, false, false, false, false, false, false, false] (by kernel_rfl) rfl rfl ⟨(blk_cell BK183.out 0).trans rfl, (blk_cell BK183.out 1).trans rfl, hx188_0⟩ (fun hHeld => ?_); refine with_tabW standstilllaw08_awake.tab7 standstilllaw08_awake.bits7 (fun HT_ HW_ => ?_)
                   generalize w44.drew = w45 at HO160 HO166 HO170 HO174 HO178 HO181 BK183 HB hx188_0 hHeld ⊢
                   refine pure_ (i := 1) (N := some 90) (v := ?_) (a' := ?_) #[false, true, false, false, false, false, false, false, false, false, false, false, false, false, false] rfl rfl (any_of HT_.out (by kernel_rfl)) (fun _ _ _ h => h) (Or.inl ⟨by rfl, ?_⟩) ?_ ?_
                   rotate_left
                   ·intro w'
                    go_simp
                    with_reducible rfl
                   rotate_left
                   ·simp only [Act.put, sa_, sz_, ss_, i64_w, i32_w]
                    rfl
                   refine pure_ (i := 2) (N := some 91) (v := ?_) (a' := ?_) #[false, true, true, false, false, false, false, false, false, false, false, false, false, false, false] rfl rfl (any_of HT_.out (by kernel_rfl)) (fun _ _ _ h => h) (Or.inl ⟨by rfl, ?_⟩) ?_ ?_
                   rotate_left
                   ·intro w'
                    go_simp
                    with_reducible rfl
                   rotate_left
                   ·simp only [Act.put, sa_, sz_, ss_, i64_w, i32_w]
                    rfl
                   refine take_ (i := 0) (N := some 89) (v := ?_) (a' := ?_) #[true, true, true, false, false, false, false, false, false, false, false, false, false, false, false] rfl rfl (take_ofW HT_.out HW_.out (by kernel_rfl)) (fun _ _ _ h => h) (Or.inl ⟨by rfl, ?_⟩) hHeld ?_ ?_
                   rotate_left
                   ·rintro w' ⟨s0, s1, s2⟩
                    go_simp
                    with_reducible rfl
                   rotate_left
                   ·simp only [Act.put, sa_, sz_, ss_, i64_w, i32_w]
                    rfl
                   refine take_ (i := 3) (N := some 92) (v := ?_) (a' := ?_) #[true, true, true, true, false, false, false, false, false, false, false, false, false, false, false] rfl rfl (take_ofW HT_.out HW_.out (by kernel_rfl)) (fun _ _ _ h => h) (Or.inl ⟨by rfl, ?_⟩) hHeld ?_ ?_
                   rotate_left
                   ·rintro w' ⟨s0, s1, s2⟩
                    go_simp
                    with_reducible rfl
                   rotate_left
                   ·simp only [Act.put, sa_, sz_, ss_, i64_w, i32_w]
                    rfl
                   refine join_ (σ := Value × Value × Nat) 3 #[true, true, true, true, true, true, true, true, true, true, true, true, false, false, false] (fun s_ => [(93, s_.1), (95, .tuple #[.agg #[.int .i64 t192, s_.2.1], .int .i64 t196, .bool true]), (10, .pointer (some ⟨s_.2.2, 0, none⟩)), (94, .agg #[.int .i64 (rd t179 0), s_.1]), (88, .tuple #[.agg #[.int .i64 t192, s_.2.1], .int .i64 t196, .bool true]), (96, .agg #[.int .i64 t192, s_.2.1]), (97, .int .i64 t196), (98, .bool true)]) (fun s_ w' => (w'.cell? ⟨gb183, 0, none⟩ = some (.int .i64 t175) ∧ w'.cell? ⟨gb183, 1, none⟩ = some (.slice Ao39 t176.length co39) ∧ w'.cell? ad188 = some (.int .i64 (rd t179 0))) ∧ (Kd.R (Kd.int .i64) 3 w' w.heap.size (fun k_ => some k_ ≠ (.slice (some ad184) t163.length co40 : Value).ownBlock ∧ some k_ ≠ (v169 : Value).ownBlock ∧ some k_ ≠ (.slice (some ad188) t179.length co41 : Value).ownBlock ∧ some k_ ≠ (s_.1 : Value).ownBlock ∧ some k_ ≠ (s_.2.1 : Value).ownBlock) (.slice Ao30 y158.length co30) y158) ∧ (Kd.R (Kd.int .i64) 3 w' w.heap.size (fun k_ => some k_ ≠ (.slice Ao30 y158.length co30 : Value).ownBlock ∧ some k_ ≠ (v169 : Value).ownBlock ∧ some k_ ≠ (.slice (some ad188) t179.length co41 : Value).ownBlock ∧ some k_ ≠ (s_.1 : Value).ownBlock ∧ some k_ ≠ (s_.2.1 : Value).ownBlock) (.slice (some ad184) t163.length co40) t163) ∧ (Kd.R (Kd.int .i64) 3 w' w.heap.size (fun k_ => some k_ ≠ (.slice Ao30 y158.length co30 : Value).ownBlock ∧ some k_ ≠ (.slice (some ad184) t163.length co40 : Value).ownBlock ∧ some k_ ≠ (.slice (some ad188) t179.length co41 : Value).ownBlock ∧ some k_ ≠ (s_.1 : Value).ownBlock ∧ some k_ ≠ (s_.2.1 : Value).ownBlock) v169 t167) ∧ (Kd.R k45 45 w' w.heap.size (fun k_ => some k_ ≠ (.slice Ao39 t176.length co39 : Value).ownBlock) (.slice Ao35 t172.length co35) t172) ∧ (Kd.R k45 45 w' w.heap.size (fun k_ => some k_ ≠ (.slice Ao35 t172.length co35 : Value).ownBlock) (.slice Ao39 t176.length co39) t176) ∧ (Kd.R (Kd.int .i64) 3 w' w.heap.size (fun k_ => some k_ ≠ (.slice Ao30 y158.length co30 : Value).ownBlock ∧ some k_ ≠ (.slice (some ad184) t163.length co40 : Value).ownBlock ∧ some k_ ≠ (v169 : Value).ownBlock ∧ some k_ ≠ (s_.1 : Value).ownBlock ∧ some k_ ≠ (s_.2.1 : Value).ownBlock) (.slice (some ad188) t179.length co41) t179) ∧ (Kd.R (Kd.int .i64) 3 w' w.heap.size (fun k_ => some k_ ≠ (.slice Ao30 y158.length co30 : Value).ownBlock ∧ some k_ ≠ (.slice (some ad184) t163.length co40 : Value).ownBlock ∧ some k_ ≠ (v169 : Value).ownBlock ∧ some k_ ≠ (.slice (some ad188) t179.length co41 : Value).ownBlock ∧ some k_ ≠ (s_.2.1 : Value).ownBlock) s_.1 y189) ∧ (Kd.R (Kd.int .i64) 3 w' w.heap.size (fun k_ => some k_ ≠ (.slice Ao30 y158.length co30 : Value).ownBlock ∧ some k_ ≠ (.slice (some ad184) t163.length co40 : Value).ownBlock ∧ some k_ ≠ (v169 : Value).ownBlock ∧ some k_ ≠ (.slice (some ad188) t179.length co41 : Value).ownBlock ∧ some k_ ≠ (s_.1 : Value).ownBlock) s_.2.1 t193) ∧ (w'.heap[gb183]? = some (.cells #[.int .i64 t175, .slice Ao39 t176.length co39] 38 (0, 0))) ∧ (w'.heap[s_.2.2]? = some (.cells #[.int .i64 0, .slice none 0 0] 47 (0, 0))) ∧ (w.heap.size ≤ s_.2.2) ∧ (w.heap.size ≤ s_.2.2) ∧ (gb183 ≠ s_.2.2) ∧ (s_.2.2 ≠ gb183) ∧ (Below w.heap.size w w')) ?_ ?_
                   rotate_left
                   ·intro hCont
                    refine two_ (i := 4) (j := 11) (Ni := some 93) (Nj := some 10) #[true, true, true, true, true, false, false, false, false, false, false, false, false, false, false] #[true, true, true, true, false, false, false, false, false, false, false, true, false, false, false] rfl rfl rfl rfl (two_of HT_.out (by kernel_rfl)) (by decide) (by decide) (fun K hK => ?_) (fun K hK => ?_)
                    ·skip
                     refine Kd.R_lit_step (Kd.int .i64) _ 3 ?hg (N := 93) ?hd (xs := ([8, 0] : List Int)) (inner := [.int .i64 8, .int .i64 0]) (ok := fun _ => True) (okp := fun _ => True) ?hr ?hp (fun _ hk => hk) trivial (Below.refl _ _) (Nat.le_refl _) (by simp) ?_; (case hd => rfl); (case hg => rfl); (case hr => first | (go_simp; done) | (go_simp; rfl)); (case hp => exact (Reps.one (show Kd.M (Kd.int .i64) _ _ _ 8 [.int .i64 8] from rfl) (Reps.one (show Kd.M (Kd.int .i64) _ _ _ 0 [.int .i64 0] from rfl) (Reps.none _ _))))
                     intro v190 w46 ho47 hb hg_ hnew_
                     have HS2_ := (hb.cell (World.block_lt_of_cell? _ _ (hHeld.2.2))).trans (hHeld.2.2)
                     clear hg_ hnew_
                     (first | rw [← Ny189.out] at ho47 | (simp only [Int.reduceToNat] at ho47; rw [← Ny189.out] at ho47))
                     have n0_ := A_ (Kd.R_elder' (rk_ HO160.out) (Kd.R_base ho47) hb)
                     have n1_ := A_ (Kd.R_elder' (rk_ HO166.out) (Kd.R_base ho47) hb)
                     have n2_ := A_ (Kd.R_elder' (rk_ HO170.out) (Kd.R_base ho47) hb)
                     have n3_ := A_ (Kd.R_below (rk_ HO174.out) hb)
                     have n4_ := A_ (Kd.R_below (rk_ HO178.out) hb)
                     have n5_ := A_ (Kd.R_elder' (rk_ HO181.out) (Kd.R_base ho47) hb)
                     have n6_ := A_ (Kd.R_lower (Kd.R_new' (Kd.R_new' (Kd.R_new' (Kd.R_new' ho47 (Kd.R_lt (rk_ HO160.out))) (Kd.R_lt (rk_ HO166.out))) (Kd.R_lt (rk_ HO170.out))) (Kd.R_lt (rk_ HO181.out))) (below_size (bk_ HB.out)))
                     have n7_ := A_ (blk_below (pk_ BK183.out) hb)
                     have n8_ := A_ (below_step (bk_ HB.out) hb)
                     clear HO160 HO166 HO170 HO174 HO178 HO181 BK183 HB
                     have HO160 := n0_
                     have HO166 := n1_
                     have HO170 := n2_
                     have HO174 := n3_
                     have HO178 := n4_
                     have HO181 := n5_
                     have HO191 := n6_
                     have BK183 := n7_
                     have HB := n8_
                     clear n0_ n1_ n2_ n3_ n4_ n5_ n6_ n7_ n8_ hb ho47
                     obtain ⟨Ao48, co48, eo48⟩ := Kd.R_slice HO191.out
                     (first | subst eo48 | (injection eo48 with f1_ f2_ f3_; have f4_ := f1_.symm; have f5_ := f3_.symm; clear f1_ f2_ f3_; subst f4_; subst f5_))
                     refine hK.out _ _ ⟨(blk_cell BK183.out 0).trans rfl, (blk_cell BK183.out 1).trans rfl, HS2_⟩ (fun hHeld => ?_)
                     clear hK K
                     refine norm_ (a' := ?_) ?_ ?_
                     rotate_left
                     ·show Act.put _ (some 93) _ = _
                      simp only [Act.put, sa_, sz_, ss_, i64_w, i32_w]
                      rfl
                     refine pure_ (i := 5) (N := some 94) (v := ?_) (a' := ?_) #[true, true, true, true, true, true, false, false, false, false, false, false, false, false, false] rfl rfl (any_of HT_.out (by kernel_rfl)) (fun _ _ _ h => h) (Or.inl ⟨by rfl, ?_⟩) ?_ ?_
                     rotate_left
                     ·intro w'
                      go_simp
                      with_reducible rfl
                     rotate_left
                     ·simp only [Act.put, sa_, sz_, ss_, i64_w, i32_w]
                      rfl
                     refine two_ (i := 6) (j := 11) (Ni := some 95) (Nj := some 10) #[true, true, true, true, true, true, true, false, false, false, false, false, false, false, false] #[true, true, true, true, true, true, false, false, false, false, false, true, false, false, false] rfl rfl rfl rfl (two_of HT_.out (by kernel_rfl)) (by decide) (by decide) (fun K hK => ?_) (fun K hK => ?_)
                     ·skip
                      refine goes_ Try.func21 (by kernel_rfl) rfl #[.agg #[.int .i64 t175, .slice Ao39 t176.length co39], .agg #[.int .i64 (rd t179 0), .slice Ao48 y189.length co48], .int .i64 100000] (by rfl) rfl rfl gl_ ?_
                      with_reducible refine (standstillref06_Run.calls t175 _ _ t176 (rd t179 0) _ _ y189 100000 t192 t193 t196 true _ ?side1 ?side2 ?side3 ?side4 A23.out).mono ?_
                      (case side1 => repeat (first | exact (Kd.R_reads' HO178.out).2.2 | (with_reducible refine Kd.C_alloc ?_ _) | (with_reducible refine Kd.C_drewN ?_ _) | (with_reducible refine Kd.C_drew ?_)))
                      (case side2 => exact (Kd.R_reads' HO178.out).2.1)
                      (case side3 => repeat (first | exact (Kd.R_reads' HO191.out).2.2 | (with_reducible refine Kd.C_alloc ?_ _) | (with_reducible refine Kd.C_drewN ?_ _) | (with_reducible refine Kd.C_drew ?_)))
                      (case side4 => exact (Kd.R_reads' HO191.out).2.1)
                      rintro e w49 ⟨v194, rfl, ho0, hb⟩
                      have HS2_ := (hb.cell (World.block_lt_of_cell? _ _ (hHeld.2.2))).trans (hHeld.2.2)
                      refine ⟨_, rfl, ?_⟩
                      have n0_ := A_ (Kd.R_elder' (rk_ HO160.out) (Kd.R_base ho0) hb)
                      have n1_ := A_ (Kd.R_elder' (rk_ HO166.out) (Kd.R_base ho0) hb)
                      have n2_ := A_ (Kd.R_elder' (rk_ HO170.out) (Kd.R_base ho0) hb)
                      have n3_ := A_ (Kd.R_below (rk_ HO174.out) hb)
                      have n4_ := A_ (Kd.R_below (rk_ HO178.out) hb)
                      have n5_ := A_ (Kd.R_elder' (rk_ HO181.out) (Kd.R_base ho0) hb)
                      have n6_ := A_ (Kd.R_elder' (rk_ HO191.out) (Kd.R_base ho0) hb)
                      have n7_ := A_ (Kd.R_lower (Kd.R_new' (Kd.R_new' (Kd.R_new' (Kd.R_new' (Kd.R_new' ho0 (Kd.R_lt (rk_ HO160.out))) (Kd.R_lt (rk_ HO166.out))) (Kd.R_lt (rk_ HO170.out))) (Kd.R_lt (rk_ HO181.out))) (Kd.R_lt (rk_ HO191.out))) (below_size (bk_ HB.out)))
                      have n8_ := A_ (blk_below (pk_ BK183.out) hb)
                      have n9_ := A_ (below_step (bk_ HB.out) hb)
                      clear HO160 HO166 HO170 HO174 HO178 HO181 HO191 BK183 HB
                      have HO160 := n0_
                      have HO166 := n1_
                      have HO170 := n2_
                      have HO174 := n3_
                      have HO178 := n4_
                      have HO181 := n5_
                      have HO191 := n6_
                      have HO195 := n7_
                      have BK183 := n8_
                      have HB := n9_
                      clear n0_ n1_ n2_ n3_ n4_ n5_ n6_ n7_ n8_ n9_
                      (try clear hb)
                      (try clear hb2)
                      (try clear hk)
                      (try clear hi)
                      (try clear ho0)
                      refine hK.out _ _ ⟨(blk_cell BK183.out 0).trans rfl, (blk_cell BK183.out 1).trans rfl, HS2_⟩ (fun hHeld => ?_)
                      clear hK K
                      refine norm_ (a' := ?_) ?_ ?_
                      rotate_left
                      ·show Act.put _ (some 95) _ = _
                       simp only [Act.put, sa_, sz_, ss_, i64_w, i32_w]
                       rfl
                      refine pure_ (i := 7) (N := some 88) (v := ?_) (a' := ?_) #[true, true, true, true, true, true, true, true, false, false, false, false, false, false, false] rfl rfl (any_of HT_.out (by kernel_rfl)) (fun _ _ _ h => h) (Or.inl ⟨by rfl, ?_⟩) ?_ ?_
                      rotate_left
                      ·intro w'
                       go_simp
                       with_reducible rfl
                      rotate_left
                      ·simp only [Act.put, sa_, sz_, ss_, i64_w, i32_w]
                       rfl
                      refine pure_ (i := 8) (N := some 96) (v := ?_) (a' := ?_) #[true, true, true, true, true, true, true, true, true, false, false, false, false, false, false] rfl rfl (any_of HT_.out (by kernel_rfl)) (fun _ _ _ h => h) (Or.inl ⟨by rfl, ?_⟩) ?_ ?_
                      rotate_left
                      ·intro w'
                       go_simp
                       with_reducible rfl
                      rotate_left
                      ·simp only [Act.put, sa_, sz_, ss_, i64_w, i32_w]
                       rfl
                      refine pure_ (i := 9) (N := some 97) (v := ?_) (a' := ?_) #[true, true, true, true, true, true, true, true, true, true, false, false, false, false, false] rfl rfl (any_of HT_.out (by kernel_rfl)) (fun _ _ _ h => h) (Or.inl ⟨by rfl, ?_⟩) ?_ ?_
                      rotate_left
                      ·intro w'
                       go_simp
                       with_reducible rfl
                      rotate_left
                      ·simp only [Act.put, sa_, sz_, ss_, i64_w, i32_w]
                       rfl
                      refine pure_ (i := 10) (N := some 98) (v := ?_) (a' := ?_) #[true, true, true, true, true, true, true, true, true, true, true, false, false, false, false] rfl rfl (any_of HT_.out (by kernel_rfl)) (fun _ _ _ h => h) (Or.inl ⟨by rfl, ?_⟩) ?_ ?_
                      rotate_left
                      ·intro w'
                       go_simp
                       with_reducible rfl
                      rotate_left
                      ·simp only [Act.put, sa_, sz_, ss_, i64_w, i32_w]
                       rfl
                      refine one_ (i := 11) (N := some 10) #[true, true, true, true, true, true, true, true, true, true, true, true, false, false, false] rfl rfl (one_of HT_.out (by kernel_rfl)) (by decide) (fun K hK => ?_)
                      refine box_step ?hg (N := 10) ?hd (cs := #[.int .i64 0, .slice none 0 0]) (t := 47) ?hr ?_; (case hd => rfl); (case hg => rfl); (case hr => first | (go_simp; done) | (go_simp; rfl))
                      intro gb198 hg w50 hbox hb
                      have HS2_ := (hb.cell (World.block_lt_of_cell? _ _ (hHeld.2.2))).trans (hHeld.2.2)
                      have n0_ := A_ (Kd.R_below (rk_ HO160.out) hb)
                      have n1_ := A_ (Kd.R_below (rk_ HO166.out) hb)
                      have n2_ := A_ (Kd.R_below (rk_ HO170.out) hb)
                      have n3_ := A_ (Kd.R_below (rk_ HO174.out) hb)
                      have n4_ := A_ (Kd.R_below (rk_ HO178.out) hb)
                      have n5_ := A_ (Kd.R_below (rk_ HO181.out) hb)
                      have n6_ := A_ (Kd.R_below (rk_ HO191.out) hb)
                      have n7_ := A_ (Kd.R_below (rk_ HO195.out) hb)
                      have n8_ := A_ (blk_below (pk_ BK183.out) hb)
                      have n9_ := A_ (below_step (bk_ HB.out) hb)
                      have n10_ := A_ (hbox)
                      have n11_ := A_ (bz_ hg (bk_ HB.out))
                      have n12_ := A_ (bz_ hg (bk_ HB.out))
                      have n13_ := A_ (nl_ hg (pk_ BK183.out))
                      have n14_ := A_ (ng_ hg (pk_ BK183.out))
                      clear HO160 HO166 HO170 HO174 HO178 HO181 HO191 HO195 BK183 HB
                      have HO160 := n0_
                      have HO166 := n1_
                      have HO170 := n2_
                      have HO174 := n3_
                      have HO178 := n4_
                      have HO181 := n5_
                      have HO191 := n6_
                      have HO195 := n7_
                      have BK183 := n8_
                      have HB := n9_
                      have BK198 := n10_
                      have GW198 := n11_
                      have GE198 := n12_
                      have NB183_198 := n13_
                      have NB198_183 := n14_
                      clear n0_ n1_ n2_ n3_ n4_ n5_ n6_ n7_ n8_ n9_ n10_ n11_ n12_ n13_ n14_ hb hbox hg
                      refine hK.out _ _ ⟨(blk_cell BK183.out 0).trans rfl, (blk_cell BK183.out 1).trans rfl, HS2_⟩ (fun hHeld => ?_)
                      clear hK K
                      refine norm_ (a' := ?_) ?_ ?_
                      rotate_left
                      ·show Act.put _ (some 10) _ = _
                       simp only [Act.put, sa_, sz_, ss_, i64_w, i32_w]
                       rfl
                      exact norm_ (by simp only [putAll, Act.put, List.setIfInBounds_toArray, List.set_cons_zero, List.set_cons_succ]) (hCont (.slice Ao48 y189.length co48, v194, gb198) _ ⟨hHeld, (by (with_reducible repeat (first | apply Kd.R_alloc | apply Kd.R_drewN | apply Kd.R_drew)); exact Kd.R_mono HO160.out (fun _ hk => ⟨hk.1.1.1.1.2, ⟨hk.1.1.1.2, ⟨hk.1.1.2, ⟨hk.1.2, hk.2⟩⟩⟩⟩)), (by (with_reducible repeat (first | apply Kd.R_alloc | apply Kd.R_drewN | apply Kd.R_drew)); exact Kd.R_mono HO166.out (fun _ hk => ⟨hk.1.1.1.1.2, ⟨hk.1.1.1.2, ⟨hk.1.1.2, ⟨hk.1.2, hk.2⟩⟩⟩⟩)), (by (with_reducible repeat (first | apply Kd.R_alloc | apply Kd.R_drewN | apply Kd.R_drew)); exact Kd.R_mono HO170.out (fun _ hk => ⟨hk.1.1.1.1.2, ⟨hk.1.1.1.2, ⟨hk.1.1.2, ⟨hk.1.2, hk.2⟩⟩⟩⟩)), (by (with_reducible repeat (first | apply Kd.R_alloc | apply Kd.R_drewN | apply Kd.R_drew)); exact Kd.R_mono HO174.out (fun _ hk => hk.2)), (by (with_reducible repeat (first | apply Kd.R_alloc | apply Kd.R_drewN | apply Kd.R_drew)); exact Kd.R_mono HO178.out (fun _ hk => hk.2)), (by (with_reducible repeat (first | apply Kd.R_alloc | apply Kd.R_drewN | apply Kd.R_drew)); exact Kd.R_mono HO181.out (fun _ hk => ⟨hk.1.1.1.1.2, ⟨hk.1.1.1.2, ⟨hk.1.1.2, ⟨hk.1.2, hk.2⟩⟩⟩⟩)), (by (with_reducible repeat (first | apply Kd.R_alloc | apply Kd.R_drewN | apply Kd.R_drew)); exact Kd.R_mono HO191.out (fun _ hk => ⟨hk.1.1.1.1.2, ⟨hk.1.1.1.2, ⟨hk.1.1.2, ⟨hk.1.2, hk.2⟩⟩⟩⟩)), (by (with_reducible repeat (first | apply Kd.R_alloc | apply Kd.R_drewN | apply Kd.R_drew)); exact Kd.R_mono HO195.out (fun _ hk => ⟨hk.1.1.1.1.2, ⟨hk.1.1.1.2, ⟨hk.1.1.2, ⟨hk.1.2, hk.2⟩⟩⟩⟩)), (pk_ BK183.out), (pk_ BK198.out), GW198.out, GE198.out, NB183_198.out, NB198_183.out, (bk_ HB.out)⟩)
                     ·skip
                      refine box_step ?hg (N := 10) ?hd (cs := #[.int .i64 0, .slice none 0 0]) (t := 47) ?hr ?_; (case hd => rfl); (case hg => rfl); (case hr => first | (go_simp; done) | (go_simp; rfl))
                      intro gb198 hg w49 hbox hb
                      have HS2_ := (hb.cell (World.block_lt_of_cell? _ _ (hHeld.2.2))).trans (hHeld.2.2)
                      have n0_ := A_ (Kd.R_below (rk_ HO160.out) hb)
                      have n1_ := A_ (Kd.R_below (rk_ HO166.out) hb)
                      have n2_ := A_ (Kd.R_below (rk_ HO170.out) hb)
                      have n3_ := A_ (Kd.R_below (rk_ HO174.out) hb)
                      have n4_ := A_ (Kd.R_below (rk_ HO178.out) hb)
                      have n5_ := A_ (Kd.R_below (rk_ HO181.out) hb)
                      have n6_ := A_ (Kd.R_below (rk_ HO191.out) hb)
                      have n7_ := A_ (blk_below (pk_ BK183.out) hb)
                      have n8_ := A_ (below_step (bk_ HB.out) hb)
                      have n9_ := A_ (hbox)
                      have n10_ := A_ (bz_ hg (bk_ HB.out))
                      have n11_ := A_ (bz_ hg (bk_ HB.out))
                      have n12_ := A_ (nl_ hg (pk_ BK183.out))
                      have n13_ := A_ (ng_ hg (pk_ BK183.out))
                      clear HO160 HO166 HO170 HO174 HO178 HO181 HO191 BK183 HB
                      have HO160 := n0_
                      have HO166 := n1_
                      have HO170 := n2_
                      have HO174 := n3_
                      have HO178 := n4_
                      have HO181 := n5_
                      have HO191 := n6_
                      have BK183 := n7_
                      have HB := n8_
                      have BK198 := n9_
                      have GW198 := n10_
                      have GE198 := n11_
                      have NB183_198 := n12_
                      have NB198_183 := n13_
                      clear n0_ n1_ n2_ n3_ n4_ n5_ n6_ n7_ n8_ n9_ n10_ n11_ n12_ n13_ hb hbox hg
                      refine hK.out _ _ ⟨(blk_cell BK183.out 0).trans rfl, (blk_cell BK183.out 1).trans rfl, HS2_⟩ (fun hHeld => ?_)
                      clear hK K
                      refine norm_ (a' := ?_) ?_ ?_
                      rotate_left
                      ·show Act.put _ (some 10) _ = _
                       simp only [Act.put, sa_, sz_, ss_, i64_w, i32_w]
                       rfl
                      refine one_ (i := 6) (N := some 95) #[true, true, true, true, true, true, true, false, false, false, false, true, false, false, false] rfl rfl (one_of HT_.out (by kernel_rfl)) (by decide) (fun K hK => ?_)
                      refine goes_ Try.func21 (by kernel_rfl) rfl #[.agg #[.int .i64 t175, .slice Ao39 t176.length co39], .agg #[.int .i64 (rd t179 0), .slice Ao48 y189.length co48], .int .i64 100000] (by rfl) rfl rfl gl_ ?_
                      with_reducible refine (standstillref06_Run.calls t175 _ _ t176 (rd t179 0) _ _ y189 100000 t192 t193 t196 true _ ?side1 ?side2 ?side3 ?side4 A23.out).mono ?_
                      (case side1 => repeat (first | exact (Kd.R_reads' HO178.out).2.2 | (with_reducible refine Kd.C_alloc ?_ _) | (with_reducible refine Kd.C_drewN ?_ _) | (with_reducible refine Kd.C_drew ?_)))
                      (case side2 => exact (Kd.R_reads' HO178.out).2.1)
                      (case side3 => repeat (first | exact (Kd.R_reads' HO191.out).2.2 | (with_reducible refine Kd.C_alloc ?_ _) | (with_reducible refine Kd.C_drewN ?_ _) | (with_reducible refine Kd.C_drew ?_)))
                      (case side4 => exact (Kd.R_reads' HO191.out).2.1)
                      rintro e w50 ⟨v194, rfl, ho0, hb⟩
                      have HS2_ := (hb.cell (World.block_lt_of_cell? _ _ (hHeld.2.2))).trans (hHeld.2.2)
                      refine ⟨_, rfl, ?_⟩
                      have n0_ := A_ (Kd.R_elder' (rk_ HO160.out) (Kd.R_base ho0) hb)
                      have n1_ := A_ (Kd.R_elder' (rk_ HO166.out) (Kd.R_base ho0) hb)
                      have n2_ := A_ (Kd.R_elder' (rk_ HO170.out) (Kd.R_base ho0) hb)
                      have n3_ := A_ (Kd.R_below (rk_ HO174.out) hb)
                      have n4_ := A_ (Kd.R_below (rk_ HO178.out) hb)
                      have n5_ := A_ (Kd.R_elder' (rk_ HO181.out) (Kd.R_base ho0) hb)
                      have n6_ := A_ (Kd.R_elder' (rk_ HO191.out) (Kd.R_base ho0) hb)
                      have n7_ := A_ (Kd.R_lower (Kd.R_new' (Kd.R_new' (Kd.R_new' (Kd.R_new' (Kd.R_new' ho0 (Kd.R_lt (rk_ HO160.out))) (Kd.R_lt (rk_ HO166.out))) (Kd.R_lt (rk_ HO170.out))) (Kd.R_lt (rk_ HO181.out))) (Kd.R_lt (rk_ HO191.out))) (below_size (bk_ HB.out)))
                      have n8_ := A_ (blk_below (pk_ BK183.out) hb)
                      have n9_ := A_ (blk_below (pk_ BK198.out) hb)
                      have n10_ := A_ (below_step (bk_ HB.out) hb)
                      clear HO160 HO166 HO170 HO174 HO178 HO181 HO191 BK183 BK198 HB
                      have HO160 := n0_
                      have HO166 := n1_
                      have HO170 := n2_
                      have HO174 := n3_
                      have HO178 := n4_
                      have HO181 := n5_
                      have HO191 := n6_
                      have HO195 := n7_
                      have BK183 := n8_
                      have BK198 := n9_
                      have HB := n10_
                      clear n0_ n1_ n2_ n3_ n4_ n5_ n6_ n7_ n8_ n9_ n10_
                      (try clear hb)
                      (try clear hb2)
                      (try clear hk)
                      (try clear hi)
                      (try clear ho0)
                      refine hK.out _ _ ⟨(blk_cell BK183.out 0).trans rfl, (blk_cell BK183.out 1).trans rfl, HS2_⟩ (fun hHeld => ?_)
                      clear hK K
                      refine norm_ (a' := ?_) ?_ ?_
                      rotate_left
                      ·show Act.put _ (some 95) _ = _
                       simp only [Act.put, sa_, sz_, ss_, i64_w, i32_w]
                       rfl
                      refine pure_ (i := 7) (N := some 88) (v := ?_) (a' := ?_) #[true, true, true, true, true, true, true, true, false, false, false, true, false, false, false] rfl rfl (any_of HT_.out (by kernel_rfl)) (fun _ _ _ h => h) (Or.inl ⟨by rfl, ?_⟩) ?_ ?_
                      rotate_left
                      ·intro w'
                       go_simp
                       with_reducible rfl
                      rotate_left
                      ·simp only [Act.put, sa_, sz_, ss_, i64_w, i32_w]
                       rfl
                      refine pure_ (i := 8) (N := some 96) (v := ?_) (a' := ?_) #[true, true, true, true, true, true, true, true, true, false, false, true, false, false, false] rfl rfl (any_of HT_.out (by kernel_rfl)) (fun _ _ _ h => h) (Or.inl ⟨by rfl, ?_⟩) ?_ ?_
                      rotate_left
                      ·intro w'
                       go_simp
                       with_reducible rfl
                      rotate_left
                      ·simp only [Act.put, sa_, sz_, ss_, i64_w, i32_w]
                       rfl
                      refine pure_ (i := 9) (N := some 97) (v := ?_) (a' := ?_) #[true, true, true, true, true, true, true, true, true, true, false, true, false, false, false] rfl rfl (any_of HT_.out (by kernel_rfl)) (fun _ _ _ h => h) (Or.inl ⟨by rfl, ?_⟩) ?_ ?_
                      rotate_left
                      ·intro w'
                       go_simp
                       with_reducible rfl
                      rotate_left
                      ·simp only [Act.put, sa_, sz_, ss_, i64_w, i32_w]
                       rfl
                      refine pure_ (i := 10) (N := some 98) (v := ?_) (a' := ?_) #[true, true, true, true, true, true, true, true, true, true, true, true, false, false, false] rfl rfl (any_of HT_.out (by kernel_rfl)) (fun _ _ _ h => h) (Or.inl ⟨by rfl, ?_⟩) ?_ ?_
                      rotate_left
                      ·intro w'
                       go_simp
                       with_reducible rfl
                      rotate_left
                      ·simp only [Act.put, sa_, sz_, ss_, i64_w, i32_w]
                       rfl
                      exact norm_ (by simp only [putAll, Act.put, List.setIfInBounds_toArray, List.set_cons_zero, List.set_cons_succ]) (hCont (.slice Ao48 y189.length co48, v194, gb198) _ ⟨hHeld, (by (with_reducible repeat (first | apply Kd.R_alloc | apply Kd.R_drewN | apply Kd.R_drew)); exact Kd.R_mono HO160.out (fun _ hk => ⟨hk.1.1.1.1.2, ⟨hk.1.1.1.2, ⟨hk.1.1.2, ⟨hk.1.2, hk.2⟩⟩⟩⟩)), (by (with_reducible repeat (first | apply Kd.R_alloc | apply Kd.R_drewN | apply Kd.R_drew)); exact Kd.R_mono HO166.out (fun _ hk => ⟨hk.1.1.1.1.2, ⟨hk.1.1.1.2, ⟨hk.1.1.2, ⟨hk.1.2, hk.2⟩⟩⟩⟩)), (by (with_reducible repeat (first | apply Kd.R_alloc | apply Kd.R_drewN | apply Kd.R_drew)); exact Kd.R_mono HO170.out (fun _ hk => ⟨hk.1.1.1.1.2, ⟨hk.1.1.1.2, ⟨hk.1.1.2, ⟨hk.1.2, hk.2⟩⟩⟩⟩)), (by (with_reducible repeat (first | apply Kd.R_alloc | apply Kd.R_drewN | apply Kd.R_drew)); exact Kd.R_mono HO174.out (fun _ hk => hk.2)), (by (with_reducible repeat (first | apply Kd.R_alloc | apply Kd.R_drewN | apply Kd.R_drew)); exact Kd.R_mono HO178.out (fun _ hk => hk.2)), (by (with_reducible repeat (first | apply Kd.R_alloc | apply Kd.R_drewN | apply Kd.R_drew)); exact Kd.R_mono HO181.out (fun _ hk => ⟨hk.1.1.1.1.2, ⟨hk.1.1.1.2, ⟨hk.1.1.2, ⟨hk.1.2, hk.2⟩⟩⟩⟩)), (by (with_reducible repeat (first | apply Kd.R_alloc | apply Kd.R_drewN | apply Kd.R_drew)); exact Kd.R_mono HO191.out (fun _ hk => ⟨hk.1.1.1.1.2, ⟨hk.1.1.1.2, ⟨hk.1.1.2, ⟨hk.1.2, hk.2⟩⟩⟩⟩)), (by (with_reducible repeat (first | apply Kd.R_alloc | apply Kd.R_drewN | apply Kd.R_drew)); exact Kd.R_mono HO195.out (fun _ hk => ⟨hk.1.1.1.1.2, ⟨hk.1.1.1.2, ⟨hk.1.1.2, ⟨hk.1.2, hk.2⟩⟩⟩⟩)), (pk_ BK183.out), (pk_ BK198.out), GW198.out, GE198.out, NB183_198.out, NB198_183.out, (bk_ HB.out)⟩)
                    ·skip
                     refine box_step ?hg (N := 10) ?hd (cs := #[.int .i64 0, .slice none 0 0]) (t := 47) ?hr ?_; (case hd => rfl); (case hg => rfl); (case hr => first | (go_simp; done) | (go_simp; rfl))
                     intro gb198 hg w46 hbox hb
                     have HS2_ := (hb.cell (World.block_lt_of_cell? _ _ (hHeld.2.2))).trans (hHeld.2.2)
                     have n0_ := A_ (Kd.R_below (rk_ HO160.out) hb)
                     have n1_ := A_ (Kd.R_below (rk_ HO166.out) hb)
                     have n2_ := A_ (Kd.R_below (rk_ HO170.out) hb)
                     have n3_ := A_ (Kd.R_below (rk_ HO174.out) hb)
                     have n4_ := A_ (Kd.R_below (rk_ HO178.out) hb)
                     have n5_ := A_ (Kd.R_below (rk_ HO181.out) hb)
                     have n6_ := A_ (blk_below (pk_ BK183.out) hb)
                     have n7_ := A_ (below_step (bk_ HB.out) hb)
                     have n8_ := A_ (hbox)
                     have n9_ := A_ (bz_ hg (bk_ HB.out))
                     have n10_ := A_ (bz_ hg (bk_ HB.out))
                     have n11_ := A_ (nl_ hg (pk_ BK183.out))
                     have n12_ := A_ (ng_ hg (pk_ BK183.out))
                     clear HO160 HO166 HO170 HO174 HO178 HO181 BK183 HB
                     have HO160 := n0_
                     have HO166 := n1_
                     have HO170 := n2_
                     have HO174 := n3_
                     have HO178 := n4_
                     have HO181 := n5_
                     have BK183 := n6_
                     have HB := n7_
                     have BK198 := n8_
                     have GW198 := n9_
                     have GE198 := n10_
                     have NB183_198 := n11_
                     have NB198_183 := n12_
                     clear n0_ n1_ n2_ n3_ n4_ n5_ n6_ n7_ n8_ n9_ n10_ n11_ n12_ hb hbox hg
                     refine hK.out _ _ ⟨(blk_cell BK183.out 0).trans rfl, (blk_cell BK183.out 1).trans rfl, HS2_⟩ (fun hHeld => ?_)
                     clear hK K
                     refine norm_ (a' := ?_) ?_ ?_
                     rotate_left
                     ·show Act.put _ (some 10) _ = _
                      simp only [Act.put, sa_, sz_, ss_, i64_w, i32_w]
                      rfl
                     refine one_ (i := 4) (N := some 93) #[true, true, true, true, true, false, false, false, false, false, false, true, false, false, false] rfl rfl (one_of HT_.out (by kernel_rfl)) (by decide) (fun K hK => ?_)
                     refine Kd.R_lit_step (Kd.int .i64) _ 3 ?hg (N := 93) ?hd (xs := ([8, 0] : List Int)) (inner := [.int .i64 8, .int .i64 0]) (ok := fun _ => True) (okp := fun _ => True) ?hr ?hp (fun _ hk => hk) trivial (Below.refl _ _) (Nat.le_refl _) (by simp) ?_; (case hd => rfl); (case hg => rfl); (case hr => first | (go_simp; done) | (go_simp; rfl)); (case hp => exact (Reps.one (show Kd.M (Kd.int .i64) _ _ _ 8 [.int .i64 8] from rfl) (Reps.one (show Kd.M (Kd.int .i64) _ _ _ 0 [.int .i64 0] from rfl) (Reps.none _ _))))
                     intro v190 w47 ho48 hb hg_ hnew_
                     have HS2_ := (hb.cell (World.block_lt_of_cell? _ _ (hHeld.2.2))).trans (hHeld.2.2)
                     clear hg_ hnew_
                     (first | rw [← Ny189.out] at ho48 | (simp only [Int.reduceToNat] at ho48; rw [← Ny189.out] at ho48))
                     have n0_ := A_ (Kd.R_elder' (rk_ HO160.out) (Kd.R_base ho48) hb)
                     have n1_ := A_ (Kd.R_elder' (rk_ HO166.out) (Kd.R_base ho48) hb)
                     have n2_ := A_ (Kd.R_elder' (rk_ HO170.out) (Kd.R_base ho48) hb)
                     have n3_ := A_ (Kd.R_below (rk_ HO174.out) hb)
                     have n4_ := A_ (Kd.R_below (rk_ HO178.out) hb)
                     have n5_ := A_ (Kd.R_elder' (rk_ HO181.out) (Kd.R_base ho48) hb)
                     have n6_ := A_ (Kd.R_lower (Kd.R_new' (Kd.R_new' (Kd.R_new' (Kd.R_new' ho48 (Kd.R_lt (rk_ HO160.out))) (Kd.R_lt (rk_ HO166.out))) (Kd.R_lt (rk_ HO170.out))) (Kd.R_lt (rk_ HO181.out))) (below_size (bk_ HB.out)))
                     have n7_ := A_ (blk_below (pk_ BK183.out) hb)
                     have n8_ := A_ (blk_below (pk_ BK198.out) hb)
                     have n9_ := A_ (below_step (bk_ HB.out) hb)
                     clear HO160 HO166 HO170 HO174 HO178 HO181 BK183 BK198 HB
                     have HO160 := n0_
                     have HO166 := n1_
                     have HO170 := n2_
                     have HO174 := n3_
                     have HO178 := n4_
                     have HO181 := n5_
                     have HO191 := n6_
                     have BK183 := n7_
                     have BK198 := n8_
                     have HB := n9_
                     clear n0_ n1_ n2_ n3_ n4_ n5_ n6_ n7_ n8_ n9_ hb ho48
                     obtain ⟨Ao49, co49, eo49⟩ := Kd.R_slice HO191.out
                     (first | subst eo49 | (injection eo49 with f1_ f2_ f3_; have f4_ := f1_.symm; have f5_ := f3_.symm; clear f1_ f2_ f3_; subst f4_; subst f5_))
                     refine hK.out _ _ ⟨(blk_cell BK183.out 0).trans rfl, (blk_cell BK183.out 1).trans rfl, HS2_⟩ (fun hHeld => ?_)
                     clear hK K
                     refine norm_ (a' := ?_) ?_ ?_
                     rotate_left
                     ·show Act.put _ (some 93) _ = _
                      simp only [Act.put, sa_, sz_, ss_, i64_w, i32_w]
                      rfl
                     refine pure_ (i := 5) (N := some 94) (v := ?_) (a' := ?_) #[true, true, true, true, true, true, false, false, false, false, false, true, false, false, false] rfl rfl (any_of HT_.out (by kernel_rfl)) (fun _ _ _ h => h) (Or.inl ⟨by rfl, ?_⟩) ?_ ?_
                     rotate_left
                     ·intro w'
                      go_simp
                      with_reducible rfl
                     rotate_left
                     ·simp only [Act.put, sa_, sz_, ss_, i64_w, i32_w]
                      rfl
                     refine one_ (i := 6) (N := some 95) #[true, true, true, true, true, true, true, false, false, false, false, true, false, false, false] rfl rfl (one_of HT_.out (by kernel_rfl)) (by decide) (fun K hK => ?_)
                     refine goes_ Try.func21 (by kernel_rfl) rfl #[.agg #[.int .i64 t175, .slice Ao39 t176.length co39], .agg #[.int .i64 (rd t179 0), .slice Ao49 y189.length co49], .int .i64 100000] (by rfl) rfl rfl gl_ ?_
                     with_reducible refine (standstillref06_Run.calls t175 _ _ t176 (rd t179 0) _ _ y189 100000 t192 t193 t196 true _ ?side1 ?side2 ?side3 ?side4 A23.out).mono ?_
                     (case side1 => repeat (first | exact (Kd.R_reads' HO178.out).2.2 | (with_reducible refine Kd.C_alloc ?_ _) | (with_reducible refine Kd.C_drewN ?_ _) | (with_reducible refine Kd.C_drew ?_)))
                     (case side2 => exact (Kd.R_reads' HO178.out).2.1)
                     (case side3 => repeat (first | exact (Kd.R_reads' HO191.out).2.2 | (with_reducible refine Kd.C_alloc ?_ _) | (with_reducible refine Kd.C_drewN ?_ _) | (with_reducible refine Kd.C_drew ?_)))
                     (case side4 => exact (Kd.R_reads' HO191.out).2.1)
                     rintro e w50 ⟨v194, rfl, ho0, hb⟩
                     have HS2_ := (hb.cell (World.block_lt_of_cell? _ _ (hHeld.2.2))).trans (hHeld.2.2)
                     refine ⟨_, rfl, ?_⟩
                     have n0_ := A_ (Kd.R_elder' (rk_ HO160.out) (Kd.R_base ho0) hb)
                     have n1_ := A_ (Kd.R_elder' (rk_ HO166.out) (Kd.R_base ho0) hb)
                     have n2_ := A_ (Kd.R_elder' (rk_ HO170.out) (Kd.R_base ho0) hb)
                     have n3_ := A_ (Kd.R_below (rk_ HO174.out) hb)
                     have n4_ := A_ (Kd.R_below (rk_ HO178.out) hb)
                     have n5_ := A_ (Kd.R_elder' (rk_ HO181.out) (Kd.R_base ho0) hb)
                     have n6_ := A_ (Kd.R_elder' (rk_ HO191.out) (Kd.R_base ho0) hb)
                     have n7_ := A_ (Kd.R_lower (Kd.R_new' (Kd.R_new' (Kd.R_new' (Kd.R_new' (Kd.R_new' ho0 (Kd.R_lt (rk_ HO160.out))) (Kd.R_lt (rk_ HO166.out))) (Kd.R_lt (rk_ HO170.out))) (Kd.R_lt (rk_ HO181.out))) (Kd.R_lt (rk_ HO191.out))) (below_size (bk_ HB.out)))
                     have n8_ := A_ (blk_below (pk_ BK183.out) hb)
                     have n9_ := A_ (blk_below (pk_ BK198.out) hb)
                     have n10_ := A_ (below_step (bk_ HB.out) hb)
                     clear HO160 HO166 HO170 HO174 HO178 HO181 HO191 BK183 BK198 HB
                     have HO160 := n0_
                     have HO166 := n1_
                     have HO170 := n2_
                     have HO174 := n3_
                     have HO178 := n4_
                     have HO181 := n5_
                     have HO191 := n6_
                     have HO195 := n7_
                     have BK183 := n8_
                     have BK198 := n9_
                     have HB := n10_
                     clear n0_ n1_ n2_ n3_ n4_ n5_ n6_ n7_ n8_ n9_ n10_
                     (try clear hb)
                     (try clear hb2)
                     (try clear hk)
                     (try clear hi)
                     (try clear ho0)
                     refine hK.out _ _ ⟨(blk_cell BK183.out 0).trans rfl, (blk_cell BK183.out 1).trans rfl, HS2_⟩ (fun hHeld => ?_)
                     clear hK K
                     refine norm_ (a' := ?_) ?_ ?_
                     rotate_left
                     ·show Act.put _ (some 95) _ = _
                      simp only [Act.put, sa_, sz_, ss_, i64_w, i32_w]
                      rfl
                     refine pure_ (i := 7) (N := some 88) (v := ?_) (a' := ?_) #[true, true, true, true, true, true, true, true, false, false, false, true, false, false, false] rfl rfl (any_of HT_.out (by kernel_rfl)) (fun _ _ _ h => h) (Or.inl ⟨by rfl, ?_⟩) ?_ ?_
                     rotate_left
                     ·intro w'
                      go_simp
                      with_reducible rfl
                     rotate_left
                     ·simp only [Act.put, sa_, sz_, ss_, i64_w, i32_w]
                      rfl
                     refine pure_ (i := 8) (N := some 96) (v := ?_) (a' := ?_) #[true, true, true, true, true, true, true, true, true, false, false, true, false, false, false] rfl rfl (any_of HT_.out (by kernel_rfl)) (fun _ _ _ h => h) (Or.inl ⟨by rfl, ?_⟩) ?_ ?_
                     rotate_left
                     ·intro w'
                      go_simp
                      with_reducible rfl
                     rotate_left
                     ·simp only [Act.put, sa_, sz_, ss_, i64_w, i32_w]
                      rfl
                     refine pure_ (i := 9) (N := some 97) (v := ?_) (a' := ?_) #[true, true, true, true, true, true, true, true, true, true, false, true, false, false, false] rfl rfl (any_of HT_.out (by kernel_rfl)) (fun _ _ _ h => h) (Or.inl ⟨by rfl, ?_⟩) ?_ ?_
                     rotate_left
                     ·intro w'
                      go_simp
                      with_reducible rfl
                     rotate_left
                     ·simp only [Act.put, sa_, sz_, ss_, i64_w, i32_w]
                      rfl
                     refine pure_ (i := 10) (N := some 98) (v := ?_) (a' := ?_) #[true, true, true, true, true, true, true, true, true, true, true, true, false, false, false] rfl rfl (any_of HT_.out (by kernel_rfl)) (fun _ _ _ h => h) (Or.inl ⟨by rfl, ?_⟩) ?_ ?_
                     rotate_left
                     ·intro w'
                      go_simp
                      with_reducible rfl
                     rotate_left
                     ·simp only [Act.put, sa_, sz_, ss_, i64_w, i32_w]
                      rfl
                     exact norm_ (by simp only [putAll, Act.put, List.setIfInBounds_toArray, List.set_cons_zero, List.set_cons_succ]) (hCont (.slice Ao49 y189.length co49, v194, gb198) _ ⟨hHeld, (by (with_reducible repeat (first | apply Kd.R_alloc | apply Kd.R_drewN | apply Kd.R_drew)); exact Kd.R_mono HO160.out (fun _ hk => ⟨hk.1.1.1.1.2, ⟨hk.1.1.1.2, ⟨hk.1.1.2, ⟨hk.1.2, hk.2⟩⟩⟩⟩)), (by (with_reducible repeat (first | apply Kd.R_alloc | apply Kd.R_drewN | apply Kd.R_drew)); exact Kd.R_mono HO166.out (fun _ hk => ⟨hk.1.1.1.1.2, ⟨hk.1.1.1.2, ⟨hk.1.1.2, ⟨hk.1.2, hk.2⟩⟩⟩⟩)), (by (with_reducible repeat (first | apply Kd.R_alloc | apply Kd.R_drewN | apply Kd.R_drew)); exact Kd.R_mono HO170.out (fun _ hk => ⟨hk.1.1.1.1.2, ⟨hk.1.1.1.2, ⟨hk.1.1.2, ⟨hk.1.2, hk.2⟩⟩⟩⟩)), (by (with_reducible repeat (first | apply Kd.R_alloc | apply Kd.R_drewN | apply Kd.R_drew)); exact Kd.R_mono HO174.out (fun _ hk => hk.2)), (by (with_reducible repeat (first | apply Kd.R_alloc | apply Kd.R_drewN | apply Kd.R_drew)); exact Kd.R_mono HO178.out (fun _ hk => hk.2)), (by (with_reducible repeat (first | apply Kd.R_alloc | apply Kd.R_drewN | apply Kd.R_drew)); exact Kd.R_mono HO181.out (fun _ hk => ⟨hk.1.1.1.1.2, ⟨hk.1.1.1.2, ⟨hk.1.1.2, ⟨hk.1.2, hk.2⟩⟩⟩⟩)), (by (with_reducible repeat (first | apply Kd.R_alloc | apply Kd.R_drewN | apply Kd.R_drew)); exact Kd.R_mono HO191.out (fun _ hk => ⟨hk.1.1.1.1.2, ⟨hk.1.1.1.2, ⟨hk.1.1.2, ⟨hk.1.2, hk.2⟩⟩⟩⟩)), (by (with_reducible repeat (first | apply Kd.R_alloc | apply Kd.R_drewN | apply Kd.R_drew)); exact Kd.R_mono HO195.out (fun _ hk => ⟨hk.1.1.1.1.2, ⟨hk.1.1.1.2, ⟨hk.1.1.2, ⟨hk.1.2, hk.2⟩⟩⟩⟩)), (pk_ BK183.out), (pk_ BK198.out), GW198.out, GE198.out, NB183_198.out, NB198_183.out, (bk_ HB.out)⟩)
                   rintro ⟨v190, v194, gb198⟩ w51 ⟨hS_, h0_, h1_, h2_, h3_, h4_, h5_, h6_, h7_, h8_, h9_, h10_, h11_, h12_, h13_, h14_⟩
                   have n0_ : Aside0 (Kd.R (Kd.int .i64) 3 w51 w.heap.size (fun k_ => some k_ ≠ (.slice (some ad184) t163.length co40 : Value).ownBlock ∧ some k_ ≠ (v169 : Value).ownBlock ∧ some k_ ≠ (.slice (some ad188) t179.length co41 : Value).ownBlock ∧ some k_ ≠ (v190 : Value).ownBlock ∧ some k_ ≠ (v194 : Value).ownBlock) (.slice Ao30 y158.length co30) y158) := ⟨h0_⟩
                   have n1_ : Aside0 (Kd.R (Kd.int .i64) 3 w51 w.heap.size (fun k_ => some k_ ≠ (.slice Ao30 y158.length co30 : Value).ownBlock ∧ some k_ ≠ (v169 : Value).ownBlock ∧ some k_ ≠ (.slice (some ad188) t179.length co41 : Value).ownBlock ∧ some k_ ≠ (v190 : Value).ownBlock ∧ some k_ ≠ (v194 : Value).ownBlock) (.slice (some ad184) t163.length co40) t163) := ⟨h1_⟩
                   have n2_ : Aside0 (Kd.R (Kd.int .i64) 3 w51 w.heap.size (fun k_ => some k_ ≠ (.slice Ao30 y158.length co30 : Value).ownBlock ∧ some k_ ≠ (.slice (some ad184) t163.length co40 : Value).ownBlock ∧ some k_ ≠ (.slice (some ad188) t179.length co41 : Value).ownBlock ∧ some k_ ≠ (v190 : Value).ownBlock ∧ some k_ ≠ (v194 : Value).ownBlock) v169 t167) := ⟨h2_⟩
                   have n3_ : Aside0 (Kd.R k45 45 w51 w.heap.size (fun k_ => some k_ ≠ (.slice Ao39 t176.length co39 : Value).ownBlock) (.slice Ao35 t172.length co35) t172) := ⟨h3_⟩
                   have n4_ : Aside0 (Kd.R k45 45 w51 w.heap.size (fun k_ => some k_ ≠ (.slice Ao35 t172.length co35 : Value).ownBlock) (.slice Ao39 t176.length co39) t176) := ⟨h4_⟩
                   have n5_ : Aside0 (Kd.R (Kd.int .i64) 3 w51 w.heap.size (fun k_ => some k_ ≠ (.slice Ao30 y158.length co30 : Value).ownBlock ∧ some k_ ≠ (.slice (some ad184) t163.length co40 : Value).ownBlock ∧ some k_ ≠ (v169 : Value).ownBlock ∧ some k_ ≠ (v190 : Value).ownBlock ∧ some k_ ≠ (v194 : Value).ownBlock) (.slice (some ad188) t179.length co41) t179) := ⟨h5_⟩
                   have n6_ : Aside0 (Kd.R (Kd.int .i64) 3 w51 w.heap.size (fun k_ => some k_ ≠ (.slice Ao30 y158.length co30 : Value).ownBlock ∧ some k_ ≠ (.slice (some ad184) t163.length co40 : Value).ownBlock ∧ some k_ ≠ (v169 : Value).ownBlock ∧ some k_ ≠ (.slice (some ad188) t179.length co41 : Value).ownBlock ∧ some k_ ≠ (v194 : Value).ownBlock) v190 y189) := ⟨h6_⟩
                   have n7_ : Aside0 (Kd.R (Kd.int .i64) 3 w51 w.heap.size (fun k_ => some k_ ≠ (.slice Ao30 y158.length co30 : Value).ownBlock ∧ some k_ ≠ (.slice (some ad184) t163.length co40 : Value).ownBlock ∧ some k_ ≠ (v169 : Value).ownBlock ∧ some k_ ≠ (.slice (some ad188) t179.length co41 : Value).ownBlock ∧ some k_ ≠ (v190 : Value).ownBlock) v194 t193) := ⟨h7_⟩
                   have n8_ : Aside0 (w51.heap[gb183]? = some (.cells #[.int .i64 t175, .slice Ao39 t176.length co39] 38 (0, 0))) := ⟨h8_⟩
                   have n9_ : Aside0 (w51.heap[gb198]? = some (.cells #[.int .i64 0, .slice none 0 0] 47 (0, 0))) := ⟨h9_⟩
                   have n10_ : Aside0 (w.heap.size ≤ gb198) := ⟨h10_⟩
                   have n11_ : Aside0 (w.heap.size ≤ gb198) := ⟨h11_⟩
                   have n12_ : Aside0 (gb183 ≠ gb198) := ⟨h12_⟩
                   have n13_ : Aside0 (gb198 ≠ gb183) := ⟨h13_⟩
                   have n14_ : Aside0 (Below w.heap.size w w51) := ⟨h14_⟩
                   clear HO160 HO166 HO170 HO174 HO178 HO181 BK183 HB h0_ h1_ h2_ h3_ h4_ h5_ h6_ h7_ h8_ h9_ h10_ h11_ h12_ h13_ h14_
                   have HO160 := n0_
                   have HO166 := n1_
                   have HO170 := n2_
                   have HO174 := n3_
                   have HO178 := n4_
                   have HO181 := n5_
                   have HO191 := n6_
                   have HO195 := n7_
                   have BK183 := n8_
                   have BK198 := n9_
                   have GW198 := n10_
                   have GE198 := n11_
                   have NB183_198 := n12_
                   have NB198_183 := n13_
                   have HB := n14_
                   clear n0_ n1_ n2_ n3_ n4_ n5_ n6_ n7_ n8_ n9_ n10_ n11_ n12_ n13_ n14_
                   have hHeld : w51.cell? ⟨gb183, 0, none⟩ = some (.int .i64 t175) ∧ w51.cell? ⟨gb183, 1, none⟩ = some (.slice Ao39 t176.length co39) ∧ w51.cell? ad188 = some (.int .i64 (rd t179 0)) := hS_
                   obtain ⟨Ao52, co52, eo52⟩ := Kd.R_slice HO191.out
                   (first | subst eo52 | (injection eo52 with f1_ f2_ f3_; have f4_ := f1_.symm; have f5_ := f3_.symm; clear f1_ f2_ f3_; subst f4_; subst f5_))
                   obtain ⟨Ao54, co54, eo54⟩ := Kd.R_slice HO195.out
                   (first | subst eo54 | (injection eo54 with f1_ f2_ f3_; have f4_ := f1_.symm; have f5_ := f3_.symm; clear f1_ f2_ f3_; subst f4_; subst f5_))
                   refine norm_ (a' := ?_) ?_ ?_
                   rotate_left
                   ·simp only [putAll, Act.put, List.setIfInBounds_toArray, List.set_cons_zero, List.set_cons_succ]
                    rfl
                   refine one_ (i := 12) (N := none) #[true, true, true, true, true, true, true, true, true, true, true, true, true, false, false] rfl rfl (one_of HT_.out (by kernel_rfl)) (by decide) (fun K hK => ?_)
                   have hs53 : w51.cell? ⟨gb198, 0, none⟩ = some (.int .i64 0) := (blk_cell BK198.out 0).trans rfl
                   have hfs53 := blk_frozen BK198.out 0
                   have hns53_0 := NB183_198.out
                   have hms53_0 := NB198_183.out
                   have hs55 : w51.cell? ⟨gb198, 1, none⟩ = some (.slice none 0 0) := (blk_cell BK198.out 1).trans rfl
                   have hfs55 := blk_frozen BK198.out 1
                   have hns55_0 := NB183_198.out
                   have hms55_0 := NB198_183.out
                   refine skip_ (w1 := ?_) (by rfl) rfl ?_ ?_
                   rotate_left
                   ·go_simp
                    rfl
                   refine hK.out _ _ ⟨(cf2_ NB183_198.out hHeld.1), (cf2_ NB183_198.out hHeld.2.1), ((cell_far (p := ⟨gb198, _, none⟩) (by first | exact Kd.own_blk (Kd.R_ne HO181.out BK198.out (by decide)) | (rw [add_block]; exact Kd.own_blk (Kd.R_ne HO181.out BK198.out (by decide))) | (show (Addr.add _ _).block ≠ _; rw [add_block]; exact Kd.own_blk (Kd.R_ne HO181.out BK198.out (by decide))) | (dsimp only; exact Kd.own_blk (Kd.R_ne HO181.out BK198.out (by decide)))) _).trans (((cell_far (p := ⟨gb198, _, none⟩) (by first | exact Kd.own_blk (Kd.R_ne HO181.out BK198.out (by decide)) | (rw [add_block]; exact Kd.own_blk (Kd.R_ne HO181.out BK198.out (by decide))) | (show (Addr.add _ _).block ≠ _; rw [add_block]; exact Kd.own_blk (Kd.R_ne HO181.out BK198.out (by decide))) | (dsimp only; exact Kd.own_blk (Kd.R_ne HO181.out BK198.out (by decide)))) _).trans (hHeld.2.2))))⟩ (fun hHeld => ?_)
                   clear hK K
                   refine pure_ (i := 13) (N := some 11) (v := ?_) (a' := ?_) #[true, true, true, true, true, true, true, true, true, true, true, true, true, true, false] rfl rfl (any_of HT_.out (by kernel_rfl)) (fun _ _ _ h => h) (Or.inl ⟨by rfl, ?_⟩) ?_ ?_
                   rotate_left
                   ·intro w'
                    go_simp
                    with_reducible rfl
                   rotate_left
                   ·simp only [Act.put, sa_, sz_, ss_, i64_w, i32_w]
                    rfl
                   refine pure_ (i := 14) (N := some 12) (v := ?_) (a' := ?_) #[true, true, true, true, true, true, true, true, true, true, true, true, true, true, true] rfl rfl (any_of HT_.out (by kernel_rfl)) (fun _ _ _ h => h) (Or.inl ⟨by rfl, ?_⟩) ?_ ?_
                   rotate_left
                   ·intro w'
                    go_simp
                    with_reducible rfl
                   rotate_left
                   ·simp only [Act.put, sa_, sz_, ss_, i64_w, i32_w]
                    rfl
                   refine done_ (done_of HT_.out (by kernel_rfl)) ?_
                   try go_wp2
                   have n0_ : Aside0 (Kd.R (Kd.int .i64) 3 ((w51.setCell ⟨gb198, 0, none⟩ (.int .i64 t192)).setCell ⟨gb198, 1, none⟩ (.slice Ao54 t193.length co54)) w.heap.size (fun k_ => some k_ ≠ (.slice (some ad184) t163.length co40 : Value).ownBlock ∧ some k_ ≠ (v169 : Value).ownBlock ∧ some k_ ≠ (.slice (some ad188) t179.length co41 : Value).ownBlock ∧ some k_ ≠ (.slice Ao52 y189.length co52 : Value).ownBlock ∧ some k_ ≠ (.slice Ao54 t193.length co54 : Value).ownBlock) (.slice Ao30 y158.length co30) y158) := ⟨by (with_reducible repeat (first | apply Kd.R_alloc | apply Kd.R_drewN | apply Kd.R_drew)); exact Kd.R_mono (rf2_ (Kd.R_types HO160.out BK198.out (by decide))) (fun _ hk => ⟨hk.1.1, ⟨hk.1.2.1, ⟨hk.1.2.2.1, ⟨hk.1.2.2.2.1, hk.1.2.2.2.2⟩⟩⟩⟩)⟩
                   have n1_ : Aside0 (Kd.R (Kd.int .i64) 3 ((w51.setCell ⟨gb198, 0, none⟩ (.int .i64 t192)).setCell ⟨gb198, 1, none⟩ (.slice Ao54 t193.length co54)) w.heap.size (fun k_ => some k_ ≠ (.slice Ao30 y158.length co30 : Value).ownBlock ∧ some k_ ≠ (v169 : Value).ownBlock ∧ some k_ ≠ (.slice (some ad188) t179.length co41 : Value).ownBlock ∧ some k_ ≠ (.slice Ao52 y189.length co52 : Value).ownBlock ∧ some k_ ≠ (.slice Ao54 t193.length co54 : Value).ownBlock) (.slice (some ad184) t163.length co40) t163) := ⟨by (with_reducible repeat (first | apply Kd.R_alloc | apply Kd.R_drewN | apply Kd.R_drew)); exact Kd.R_mono (rf2_ (Kd.R_types HO166.out BK198.out (by decide))) (fun _ hk => ⟨hk.1.1, ⟨hk.1.2.1, ⟨hk.1.2.2.1, ⟨hk.1.2.2.2.1, hk.1.2.2.2.2⟩⟩⟩⟩)⟩
                   have n2_ : Aside0 (Kd.R (Kd.int .i64) 3 ((w51.setCell ⟨gb198, 0, none⟩ (.int .i64 t192)).setCell ⟨gb198, 1, none⟩ (.slice Ao54 t193.length co54)) w.heap.size (fun k_ => some k_ ≠ (.slice Ao30 y158.length co30 : Value).ownBlock ∧ some k_ ≠ (.slice (some ad184) t163.length co40 : Value).ownBlock ∧ some k_ ≠ (.slice (some ad188) t179.length co41 : Value).ownBlock ∧ some k_ ≠ (.slice Ao52 y189.length co52 : Value).ownBlock ∧ some k_ ≠ (.slice Ao54 t193.length co54 : Value).ownBlock) v169 t167) := ⟨by (with_reducible repeat (first | apply Kd.R_alloc | apply Kd.R_drewN | apply Kd.R_drew)); exact Kd.R_mono (rf2_ (Kd.R_types HO170.out BK198.out (by decide))) (fun _ hk => ⟨hk.1.1, ⟨hk.1.2.1, ⟨hk.1.2.2.1, ⟨hk.1.2.2.2.1, hk.1.2.2.2.2⟩⟩⟩⟩)⟩
                   have n3_ : Aside0 (Kd.R k45 45 ((w51.setCell ⟨gb198, 0, none⟩ (.int .i64 t192)).setCell ⟨gb198, 1, none⟩ (.slice Ao54 t193.length co54)) w.heap.size (fun k_ => some k_ ≠ (.slice Ao39 t176.length co39 : Value).ownBlock) (.slice Ao35 t172.length co35) t172) := ⟨by (with_reducible repeat (first | apply Kd.R_alloc | apply Kd.R_drewN | apply Kd.R_drew)); exact Kd.R_mono (rf2_ (Kd.R_types HO174.out BK198.out (by decide))) (fun _ hk => hk.1)⟩
                   have n4_ : Aside0 (Kd.R k45 45 ((w51.setCell ⟨gb198, 0, none⟩ (.int .i64 t192)).setCell ⟨gb198, 1, none⟩ (.slice Ao54 t193.length co54)) w.heap.size (fun k_ => some k_ ≠ (.slice Ao35 t172.length co35 : Value).ownBlock) (.slice Ao39 t176.length co39) t176) := ⟨by (with_reducible repeat (first | apply Kd.R_alloc | apply Kd.R_drewN | apply Kd.R_drew)); exact Kd.R_mono (rf2_ (Kd.R_types HO178.out BK198.out (by decide))) (fun _ hk => hk.1)⟩
                   have n5_ : Aside0 (Kd.R (Kd.int .i64) 3 ((w51.setCell ⟨gb198, 0, none⟩ (.int .i64 t192)).setCell ⟨gb198, 1, none⟩ (.slice Ao54 t193.length co54)) w.heap.size (fun k_ => some k_ ≠ (.slice Ao30 y158.length co30 : Value).ownBlock ∧ some k_ ≠ (.slice (some ad184) t163.length co40 : Value).ownBlock ∧ some k_ ≠ (v169 : Value).ownBlock ∧ some k_ ≠ (.slice Ao52 y189.length co52 : Value).ownBlock ∧ some k_ ≠ (.slice Ao54 t193.length co54 : Value).ownBlock) (.slice (some ad188) t179.length co41) t179) := ⟨by (with_reducible repeat (first | apply Kd.R_alloc | apply Kd.R_drewN | apply Kd.R_drew)); exact Kd.R_mono (rf2_ (Kd.R_types HO181.out BK198.out (by decide))) (fun _ hk => ⟨hk.1.1, ⟨hk.1.2.1, ⟨hk.1.2.2.1, ⟨hk.1.2.2.2.1, hk.1.2.2.2.2⟩⟩⟩⟩)⟩
                   have n6_ : Aside0 (Kd.R (Kd.int .i64) 3 ((w51.setCell ⟨gb198, 0, none⟩ (.int .i64 t192)).setCell ⟨gb198, 1, none⟩ (.slice Ao54 t193.length co54)) w.heap.size (fun k_ => some k_ ≠ (.slice Ao30 y158.length co30 : Value).ownBlock ∧ some k_ ≠ (.slice (some ad184) t163.length co40 : Value).ownBlock ∧ some k_ ≠ (v169 : Value).ownBlock ∧ some k_ ≠ (.slice (some ad188) t179.length co41 : Value).ownBlock ∧ some k_ ≠ (.slice Ao54 t193.length co54 : Value).ownBlock) (.slice Ao52 y189.length co52) y189) := ⟨by (with_reducible repeat (first | apply Kd.R_alloc | apply Kd.R_drewN | apply Kd.R_drew)); exact Kd.R_mono (rf2_ (Kd.R_types HO191.out BK198.out (by decide))) (fun _ hk => ⟨hk.1.1, ⟨hk.1.2.1, ⟨hk.1.2.2.1, ⟨hk.1.2.2.2.1, hk.1.2.2.2.2⟩⟩⟩⟩)⟩
                   have n7_ : Aside0 (Kd.R (Kd.int .i64) 3 ((w51.setCell ⟨gb198, 0, none⟩ (.int .i64 t192)).setCell ⟨gb198, 1, none⟩ (.slice Ao54 t193.length co54)) w.heap.size (fun k_ => some k_ ≠ (.slice Ao30 y158.length co30 : Value).ownBlock ∧ some k_ ≠ (.slice (some ad184) t163.length co40 : Value).ownBlock ∧ some k_ ≠ (v169 : Value).ownBlock ∧ some k_ ≠ (.slice (some ad188) t179.length co41 : Value).ownBlock ∧ some k_ ≠ (.slice Ao52 y189.length co52 : Value).ownBlock) (.slice Ao54 t193.length co54) t193) := ⟨by (with_reducible repeat (first | apply Kd.R_alloc | apply Kd.R_drewN | apply Kd.R_drew)); exact Kd.R_mono (rf2_ (Kd.R_types HO195.out BK198.out (by decide))) (fun _ hk => ⟨hk.1.1, ⟨hk.1.2.1, ⟨hk.1.2.2.1, ⟨hk.1.2.2.2.1, hk.1.2.2.2.2⟩⟩⟩⟩)⟩
                   have n8_ : Aside0 (((w51.setCell ⟨gb198, 0, none⟩ (.int .i64 t192)).setCell ⟨gb198, 1, none⟩ (.slice Ao54 t193.length co54)).heap[gb183]? = some (.cells #[.int .i64 t175, .slice Ao39 t176.length co39] 38 (0, 0))) := ⟨by (iterate 2 (refine pk_ ?_; refine blk_far ?_ NB183_198.out _)); exact pk_ BK183.out⟩
                   have n9_ : Aside0 (((w51.setCell ⟨gb198, 0, none⟩ (.int .i64 t192)).setCell ⟨gb198, 1, none⟩ (.slice Ao54 t193.length co54)).heap[gb198]? = some (.cells #[.int .i64 t192, .slice Ao54 t193.length co54] 47 (0, 0))) := ⟨by refine pk_ ?_; refine blk_put (cs := #[.int .i64 t192, .slice none 0 0]) ?_ 1 _ rfl; refine pk_ ?_; refine blk_put (cs := #[.int .i64 0, .slice none 0 0]) ?_ 0 _ rfl; exact pk_ BK198.out⟩
                   have n10_ : Aside0 (Below w.heap.size w ((w51.setCell ⟨gb198, 0, none⟩ (.int .i64 t192)).setCell ⟨gb198, 1, none⟩ (.slice Ao54 t193.length co54))) := ⟨bk_ HB.out⟩
                   (try clear HO160)
                   (try clear HO166)
                   (try clear HO170)
                   (try clear HO174)
                   (try clear HO178)
                   (try clear HO181)
                   (try clear HO191)
                   (try clear HO195)
                   (try clear BK183)
                   (try clear BK198)
                   (try clear HB)
                   generalize ((w51.setCell ⟨gb198, 0, none⟩ (.int .i64 t192)).setCell ⟨gb198, 1, none⟩ (.slice Ao54 t193.length co54)) = w56 at n0_ n1_ n2_ n3_ n4_ n5_ n6_ n7_ n8_ n9_ n10_ ⊢
                   have HO160 := n0_
                   have HO166 := n1_
                   have HO170 := n2_
                   have HO174 := n3_
                   have HO178 := n4_
                   have HO181 := n5_
                   have HO191 := n6_
                   have HO195 := n7_
                   have BK183 := n8_
                   have BK198 := n9_
                   have HB := n10_
                   clear n0_ n1_ n2_ n3_ n4_ n5_ n6_ n7_ n8_ n9_ n10_
                   have n0_ := A_ (Kd.R_drew HO160.out)
                   have n1_ := A_ (Kd.R_drew HO166.out)
                   have n2_ := A_ (Kd.R_drew HO170.out)
                   have n5_ := A_ (Kd.R_drew HO181.out)
                   have n6_ := A_ (Kd.R_drew HO191.out)
                   have n7_ := A_ (Kd.R_drew HO195.out)
                   have n9_ := A_ (blk_drew BK198.out)
                   have n10_ := A_ (below_drew1 HB.out)
                   clear HO160 HO166 HO170 HO181 HO191 HO195 BK198 HB
                   have HO160 := n0_
                   have HO166 := n1_
                   have HO170 := n2_
                   have HO181 := n5_
                   have HO191 := n6_
                   have HO195 := n7_
                   have BK198 := n9_
                   have HB := n10_
                   clear n0_ n1_ n2_ n5_ n6_ n7_ n9_ n10_
                   have p199 : 0 ≤ (2 : Int) := (by omega)
                   have q199 : 2 < (t179.length : Int) := od_
                   obtain ⟨ad199, e199, hx199_0⟩ := Kd.at_int (Kd.R_reads' HO181.out).2.2 2 p199 q199
                   obtain rfl : ad188 = ad199 := (by injection e199)
                   (try simp only [show (2 : Int).toNat = 2 from rfl, Nat.reduceMul, Nat.reduceEqDiff, Go.Addr.add, ↓reduceIte] at hx199_0)
                   have qi199 : (2 < t179.length) = True := eq_true (by omega)
                   (try rw [show ((2 : Int)).toNat = 2 from rfl] at hx199_0)
                   replace p199 := eq_true p199
                   replace q199 := eq_true q199
                   have p200 : 0 ≤ (2 : Int) := (by omega)
                   have q200 : 2 < (t179.length : Int) := od_
                   obtain ⟨ad200, e200, hx200_0⟩ := Kd.at_int (Kd.R_reads' HO181.out).2.2 2 p200 q200
                   obtain rfl : ad188 = ad200 := (by injection e200)
                   (try simp only [show (2 : Int).toNat = 2 from rfl, Nat.reduceMul, Nat.reduceEqDiff, Go.Addr.add, ↓reduceIte] at hx200_0)
                   have qi200 : (2 < t179.length) = True := eq_true (by omega)
                   (try rw [show ((2 : Int)).toNat = 2 from rfl] at hx200_0)
                   replace p200 := eq_true p200
                   replace q200 := eq_true q200
                   refine start_ (n := 19) (S := fun w' => w'.cell? ⟨gb198, 0, none⟩ = some (.int .i64 t192) ∧ w'.cell? ⟨gb198, 1, none⟩ = some (.slice Ao54 t193.length co54) ∧ w'.cell? ⟨ad188.block, ad188.off + 2, none⟩ = some (.int .i64 (rd t179 2)) ∧ w'.cell? ⟨ad188.block, ad188.off + 2, none⟩ = some (.int .i64 (rd t179 2))) (ds := []) #[false, false, false, false, false, false, false, false, false, false, false, false, false, false, false, false, false, false, false] (by kernel_rfl) rfl rfl ⟨(blk_cell BK198.out 0).trans rfl, (blk_cell BK198.out 1).trans rfl, hx199_0, hx200_0⟩ (fun hHeld => ?_); refine with_tabW standstilllaw08_awake.tab8 standstilllaw08_awake.bits8 (fun HT_ HW_ => ?_)
                   generalize w56.drew = w57 at HO160 HO166 HO170 HO181 HO191 HO195 BK198 HB hx199_0 hx200_0 hHeld ⊢
                   refine pure_ (i := 0) (N := some 99) (v := ?_) (a' := ?_) #[true, false, false, false, false, false, false, false, false, false, false, false, false, false, false, false, false, false, false] rfl rfl (any_of HT_.out (by kernel_rfl)) (fun _ _ _ h => h) (Or.inl ⟨by rfl, ?_⟩) ?_ ?_
                   rotate_left
                   ·intro w'
                    go_simp
                    with_reducible rfl
                   rotate_left
                   ·simp only [Act.put, sa_, sz_, ss_, i64_w, i32_w]
                    rfl
                   refine pure_ (i := 1) (N := some 100) (v := ?_) (a' := ?_) #[true, true, false, false, false, false, false, false, false, false, false, false, false, false, false, false, false, false, false] rfl rfl (any_of HT_.out (by kernel_rfl)) (fun _ _ _ h => h) (Or.inl ⟨by rfl, ?_⟩) ?_ ?_
                   rotate_left
                   ·intro w'
                    go_simp
                    with_reducible rfl
                   rotate_left
                   ·simp only [Act.put, sa_, sz_, ss_, i64_w, i32_w]
                    rfl
                   refine pure_ (i := 2) (N := some 101) (v := ?_) (a' := ?_) #[true, true, true, false, false, false, false, false, false, false, false, false, false, false, false, false, false, false, false] rfl rfl (any_of HT_.out (by kernel_rfl)) (fun _ _ _ h => h) (Or.inl ⟨by rfl, ?_⟩) ?_ ?_
                   rotate_left
                   ·intro w'
                    go_simp
                    with_reducible rfl
                   rotate_left
                   ·simp only [Act.put, sa_, sz_, ss_, i64_w, i32_w]
                    rfl
                   refine pure_ (i := 4) (N := some 103) (v := ?_) (a' := ?_) #[true, true, true, false, true, false, false, false, false, false, false, false, false, false, false, false, false, false, false] rfl rfl (any_of HT_.out (by kernel_rfl)) (fun _ _ _ h => h) (Or.inl ⟨by rfl, ?_⟩) ?_ ?_
                   rotate_left
                   ·intro w'
                    go_simp
                    with_reducible rfl
                   rotate_left
                   ·simp only [Act.put, sa_, sz_, ss_, i64_w, i32_w]
                    rfl
                   refine pure_ (i := 5) (N := some 104) (v := ?_) (a' := ?_) #[true, true, true, false, true, true, false, false, false, false, false, false, false, false, false, false, false, false, false] rfl rfl (any_of HT_.out (by kernel_rfl)) (fun _ _ _ h => h) (Or.inl ⟨by rfl, ?_⟩) ?_ ?_
                   rotate_left
                   ·intro w'
                    go_simp
                    with_reducible rfl
                   rotate_left
                   ·simp only [Act.put, sa_, sz_, ss_, i64_w, i32_w]
                    rfl
                   refine take_ (i := 3) (N := some 102) (v := ?_) (a' := ?_) #[true, true, true, true, true, true, false, false, false, false, false, false, false, false, false, false, false, false, false] rfl rfl (take_ofW HT_.out HW_.out (by kernel_rfl)) (fun _ _ _ h => h) (Or.inl ⟨by rfl, ?_⟩) hHeld ?_ ?_
                   rotate_left
                   ·rintro w' ⟨s0, s1, s2, s3⟩
                    go_simp
                    with_reducible rfl
                   rotate_left
                   ·simp only [Act.put, sa_, sz_, ss_, i64_w, i32_w]
                    rfl
                   refine take_ (i := 6) (N := some 105) (v := ?_) (a' := ?_) #[true, true, true, true, true, true, true, false, false, false, false, false, false, false, false, false, false, false, false] rfl rfl (take_ofW HT_.out HW_.out (by kernel_rfl)) (fun _ _ _ h => h) (Or.inl ⟨by rfl, ?_⟩) hHeld ?_ ?_
                   rotate_left
                   ·rintro w' ⟨s0, s1, s2, s3⟩
                    go_simp
                    with_reducible rfl
                   rotate_left
                   ·simp only [Act.put, sa_, sz_, ss_, i64_w, i32_w]
                    rfl
                   refine pure_ (i := 7) (N := some 106) (v := ?_) (a' := ?_) #[true, true, true, true, true, true, true, true, false, false, false, false, false, false, false, false, false, false, false] rfl rfl (any_of HT_.out (by kernel_rfl)) (fun _ _ _ h => h) (Or.inl ⟨by rfl, ?_⟩) ?_ ?_
                   rotate_left
                   ·intro w'
                    go_simp
                    with_reducible rfl
                   rotate_left
                   ·simp only [Act.put, sa_, sz_, ss_, i64_w, i32_w]
                    rfl
                   refine pure_ (i := 8) (N := some 107) (v := ?_) (a' := ?_) #[true, true, true, true, true, true, true, true, true, false, false, false, false, false, false, false, false, false, false] rfl rfl (any_of HT_.out (by kernel_rfl)) (fun _ _ _ h => h) (Or.inl ⟨by rfl, ?_⟩) ?_ ?_
                   rotate_left
                   ·intro w'
                    go_simp
                    with_reducible rfl
                   rotate_left
                   ·simp only [Act.put, sa_, sz_, ss_, i64_w, i32_w]
                    rfl
                   refine pure_ (i := 9) (N := some 108) (v := ?_) (a' := ?_) #[true, true, true, true, true, true, true, true, true, true, false, false, false, false, false, false, false, false, false] rfl rfl (any_of HT_.out (by kernel_rfl)) (fun _ _ _ h => h) (Or.inl ⟨by rfl, ?_⟩) ?_ ?_
                   rotate_left
                   ·intro w'
                    go_simp
                    with_reducible rfl
                   rotate_left
                   ·simp only [Act.put, sa_, sz_, ss_, i64_w, i32_w]
                    rfl
                   refine pure_ (i := 11) (N := some 110) (v := ?_) (a' := ?_) #[true, true, true, true, true, true, true, true, true, true, false, true, false, false, false, false, false, false, false] rfl rfl (any_of HT_.out (by kernel_rfl)) (fun _ _ _ h => h) (Or.inl ⟨by rfl, ?_⟩) ?_ ?_
                   rotate_left
                   ·intro w'
                    go_simp
                    with_reducible rfl
                   rotate_left
                   ·simp only [Act.put, sa_, sz_, ss_, i64_w, i32_w]
                    rfl
                   refine pure_ (i := 12) (N := some 111) (v := ?_) (a' := ?_) #[true, true, true, true, true, true, true, true, true, true, false, true, true, false, false, false, false, false, false] rfl rfl (any_of HT_.out (by kernel_rfl)) (fun _ _ _ h => h) (Or.inl ⟨by rfl, ?_⟩) ?_ ?_
                   rotate_left
                   ·intro w'
                    go_simp
                    with_reducible rfl
                   rotate_left
                   ·simp only [Act.put, sa_, sz_, ss_, i64_w, i32_w]
                    rfl
                   refine take_ (i := 10) (N := some 109) (v := ?_) (a' := ?_) #[true, true, true, true, true, true, true, true, true, true, true, true, true, false, false, false, false, false, false] rfl rfl (take_ofW HT_.out HW_.out (by kernel_rfl)) (fun _ _ _ h => h) (Or.inl ⟨by rfl, ?_⟩) hHeld ?_ ?_
                   rotate_left
                   ·rintro w' ⟨s0, s1, s2, s3⟩
                    go_simp
                    with_reducible rfl
                   rotate_left
                   ·simp only [Act.put, sa_, sz_, ss_, i64_w, i32_w]
                    rfl
                   refine take_ (i := 13) (N := some 112) (v := ?_) (a' := ?_) #[true, true, true, true, true, true, true, true, true, true, true, true, true, true, false, false, false, false, false] rfl rfl (take_ofW HT_.out HW_.out (by kernel_rfl)) (fun _ _ _ h => h) (Or.inl ⟨by rfl, ?_⟩) hHeld ?_ ?_
                   rotate_left
                   ·rintro w' ⟨s0, s1, s2, s3⟩
                    go_simp
                    with_reducible rfl
                   rotate_left
                   ·simp only [Act.put, sa_, sz_, ss_, i64_w, i32_w]
                    rfl
                   refine one_ (i := 14) (N := some 113) #[true, true, true, true, true, true, true, true, true, true, true, true, true, true, true, false, false, false, false] rfl rfl (one_of HT_.out (by kernel_rfl)) (by decide) (fun K hK => ?_)
                   refine Kd.R_lit_step (Kd.int .i64) _ 3 ?hg (N := 113) ?hd (xs := ([27, 0] : List Int)) (inner := [.int .i64 27, .int .i64 0]) (ok := fun _ => True) (okp := fun _ => True) ?hr ?hp (fun _ hk => hk) trivial (Below.refl _ _) (Nat.le_refl _) (by simp) ?_; (case hd => rfl); (case hg => rfl); (case hr => first | (go_simp; done) | (go_simp; rfl)); (case hp => exact (Reps.one (show Kd.M (Kd.int .i64) _ _ _ 27 [.int .i64 27] from rfl) (Reps.one (show Kd.M (Kd.int .i64) _ _ _ 0 [.int .i64 0] from rfl) (Reps.none _ _))))
                   intro v202 w58 ho59 hb hg_ hnew_
                   have HS2_ := (hb.cell (World.block_lt_of_cell? _ _ (hHeld.2.2.1))).trans (hHeld.2.2.1)
                   have HS3_ := (hb.cell (World.block_lt_of_cell? _ _ (hHeld.2.2.2))).trans (hHeld.2.2.2)
                   clear hg_ hnew_
                   (first | rw [← Ny201.out] at ho59 | (simp only [Int.reduceToNat] at ho59; rw [← Ny201.out] at ho59))
                   have n7_ := A_ (Kd.R_elder' (rk_ HO195.out) (Kd.R_base ho59) hb)
                   have n8_ := A_ (Kd.R_lower (Kd.R_new' (Kd.R_new' (Kd.R_new' (Kd.R_new' (Kd.R_new' (Kd.R_new' ho59 (Kd.R_lt (rk_ HO160.out))) (Kd.R_lt (rk_ HO166.out))) (Kd.R_lt (rk_ HO170.out))) (Kd.R_lt (rk_ HO181.out))) (Kd.R_lt (rk_ HO191.out))) (Kd.R_lt (rk_ HO195.out))) (below_size (bk_ HB.out)))
                   have n10_ := A_ (blk_below (pk_ BK198.out) hb)
                   have n11_ := A_ (below_step (bk_ HB.out) hb)
                   clear HO195 BK198 HB
                   have HO195 := n7_
                   have HO203 := n8_
                   have BK198 := n10_
                   have HB := n11_
                   clear n7_ n8_ n10_ n11_ hb ho59
                   obtain ⟨Ao60, co60, eo60⟩ := Kd.R_slice HO203.out
                   (first | subst eo60 | (injection eo60 with f1_ f2_ f3_; have f4_ := f1_.symm; have f5_ := f3_.symm; clear f1_ f2_ f3_; subst f4_; subst f5_))
                   refine hK.out _ _ ⟨(blk_cell BK198.out 0).trans rfl, (blk_cell BK198.out 1).trans rfl, HS2_, HS3_⟩ (fun hHeld => ?_)
                   clear hK K
                   refine norm_ (a' := ?_) ?_ ?_
                   rotate_left
                   ·show Act.put _ (some 113) _ = _
                    simp only [Act.put, sa_, sz_, ss_, i64_w, i32_w]
                    rfl
                   refine pure_ (i := 15) (N := some 114) (v := ?_) (a' := ?_) #[true, true, true, true, true, true, true, true, true, true, true, true, true, true, true, true, false, false, false] rfl rfl (any_of HT_.out (by kernel_rfl)) (fun _ _ _ h => h) (Or.inl ⟨by rfl, ?_⟩) ?_ ?_
                   rotate_left
                   ·intro w'
                    go_simp
                    with_reducible rfl
                   rotate_left
                   ·simp only [Act.put, sa_, sz_, ss_, i64_w, i32_w]
                    rfl
                   refine one_ (i := 16) (N := some 115) #[true, true, true, true, true, true, true, true, true, true, true, true, true, true, true, true, true, false, false] rfl rfl (one_of HT_.out (by kernel_rfl)) (by decide) (fun K hK => ?_)
                   refine goes_ Try.func22 (by kernel_rfl) rfl #[.agg #[.int .i64 t192, .slice Ao54 t193.length co54], .agg #[.int .i64 (rd t179 2), .slice Ao60 y201.length co60]] (by rfl) rfl rfl gl_ ?_
                   with_reducible refine (standstillref06_SameCount.calls k t192 _ _ t193 (rd t179 2) _ _ y201 t204 _ ?side1 ?side2 ?side3 ?side4 A27.out).mono ?_
                   (case side1 => repeat (first | exact (Kd.R_reads' HO195.out).2.2 | (with_reducible refine Kd.C_alloc ?_ _) | (with_reducible refine Kd.C_drewN ?_ _) | (with_reducible refine Kd.C_drew ?_)))
                   (case side2 => exact (Kd.R_reads' HO195.out).2.1)
                   (case side3 => repeat (first | exact (Kd.R_reads' HO203.out).2.2 | (with_reducible refine Kd.C_alloc ?_ _) | (with_reducible refine Kd.C_drewN ?_ _) | (with_reducible refine Kd.C_drew ?_)))
                   (case side4 => exact (Kd.R_reads' HO203.out).2.1)
                   rintro e w61 ⟨rfl, hb⟩
                   have HS2_ := (hb.cell (World.block_lt_of_cell? _ _ (hHeld.2.2.1))).trans (hHeld.2.2.1)
                   have HS3_ := (hb.cell (World.block_lt_of_cell? _ _ (hHeld.2.2.2))).trans (hHeld.2.2.2)
                   refine ⟨_, rfl, ?_⟩
                   have n10_ := A_ (blk_below (pk_ BK198.out) hb)
                   have n11_ := A_ (below_step (bk_ HB.out) hb)
                   clear BK198 HB
                   have BK198 := n10_
                   have HB := n11_
                   clear n10_ n11_
                   (try clear hb)
                   (try clear hb2)
                   (try clear hk)
                   (try clear hi)
                   refine hK.out _ _ ⟨(blk_cell BK198.out 0).trans rfl, (blk_cell BK198.out 1).trans rfl, HS2_, HS3_⟩ (fun hHeld => ?_)
                   clear hK K
                   refine norm_ (a' := ?_) ?_ ?_
                   rotate_left
                   ·show Act.put _ (some 115) _ = _
                    simp only [Act.put, sa_, sz_, ss_, i64_w, i32_w]
                    rfl
                   refine pure_ (i := 17) (N := some 116) (v := ?_) (a' := ?_) #[true, true, true, true, true, true, true, true, true, true, true, true, true, true, true, true, true, true, false] rfl rfl (any_of HT_.out (by kernel_rfl)) (fun _ _ _ h => h) (Or.inl ⟨by rfl, ?_⟩) ?_ ?_
                   rotate_left
                   ·intro w'
                    go_simp
                    with_reducible rfl
                   rotate_left
                   ·simp only [Act.put, sa_, sz_, ss_, i64_w, i32_w]
                    rfl
                   refine pure_ (i := 18) (N := some 0) (v := ?_) (a' := ?_) #[true, true, true, true, true, true, true, true, true, true, true, true, true, true, true, true, true, true, true] rfl rfl (any_of HT_.out (by kernel_rfl)) (fun _ _ _ h => h) (Or.inl ⟨by rfl, ?_⟩) ?_ ?_
                   rotate_left
                   ·intro w'
                    go_simp
                    with_reducible rfl
                   rotate_left
                   ·simp only [Act.put, sa_, sz_, ss_, i64_w, i32_w]
                    rfl
                   refine done_ (done_of HT_.out (by kernel_rfl)) ?_
                   try go_wp2
                   go_ret
                   exact ⟨er_, bk_ HB.out⟩
                  ·rw [if_neg c26] at H
                   have c26b0 : (t192 == (rd t179 2)) = false := beq_eq_false_iff_ne.mpr c26
                   have c26b1 : (t192 != (rd t179 2)) = true := bne_iff_ne.mpr c26
                   exact absurd H (by simp)
                 ·rw [if_neg c25] at H
                  exact absurd H (by simp)
                ·replace c24 := Bool.eq_false_iff.mpr c24
                 subst c24
                 have H1 : (none) = some r := by rw [if_neg (show ¬ (false = true) by decide)] at H; exact H
                 clear H
                 have H := H1
                 clear H1
                 exact absurd H (by simp)
               ·rw [if_neg c22] at H
                exact absurd H (by simp)
              ·replace c21 := Bool.eq_false_iff.mpr c21
               subst c21
               have H1 : (none) = some r := by rw [if_neg (show ¬ (false = true) by decide)] at H; exact H
               clear H
               have H := H1
               clear H1
               exact absurd H (by simp)
             ·rw [if_neg c19] at H
              exact absurd H (by simp)
            ·replace c18 := Bool.eq_false_iff.mpr c18
             subst c18
             have H1 : (none) = some r := by rw [if_neg (show ¬ (false = true) by decide)] at H; exact H
             clear H
             have H := H1
             clear H1
             exact absurd H (by simp)
           ·rw [if_neg c16] at H
            exact absurd H (by simp)
          ·rw [if_neg c15] at H
           exact absurd H (by simp)
         ·rw [if_neg c14] at H
          exact absurd H (by simp)
        ·rw [if_neg c13] at H
         exact absurd H (by simp)
       ·rw [if_neg c12] at H
        exact absurd H (by simp)
      ·rw [if_neg c11] at H
       exact absurd H (by simp)
     ·rw [if_neg c10] at H
      exact absurd H (by simp)
    ·rw [if_neg c9] at H
     exact absurd H (by simp)
   ·rw [if_neg c8] at H
    exact absurd H (by simp)
  ·rw [if_neg c7] at H
   exact absurd H (by simp)
 ·rw [if_neg c6] at H
  exact absurd H (by simp)

end Go.Proofs.Ytkbekdjoaibhbaa.PPairRuns
