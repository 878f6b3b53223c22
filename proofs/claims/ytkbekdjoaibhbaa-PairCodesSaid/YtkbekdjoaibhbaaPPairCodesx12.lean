-- out of a turned copy of the print, by a program of this session; Lean checks it
import Derived.Test.YtkbekdjoaibhbaaPPairCodesx0
import Derived.Test.YtkbekdjoaibhbaaPPairCodesx2
import Derived.Test.YtkbekdjoaibhbaaPPairCodesx10
import Derived.Test.YtkbekdjoaibhbaaPPairCodesx11
namespace Go.Proofs.Ytkbekdjoaibhbaa.PPairCodes
open Go.RowKit Go.Proofs.YtkbekdjoaibhbaaW.PrintWords Go.Proofs.YtkbekdjoaibhbaaW.PrintLast Go.Proofs.YtkbekdjoaibhbaaW.PrintMore
attribute [local go_sem] max2_int min2_int max_two min_two max_three min_three max_four min_four   -- for this text's walks alone
set_option linter.unusedVariables false
set_option linter.unusedSimpArgs false

attribute [local go_sem] isSome_put_
/-! ### standstilllaw08_PairCodes: function 3 -/
mutual
def standstilllaw08_PairCodes.j0 : Nat → List Int → Int → Int → Int → Int → List Int → Int → Bool → Option (Bool)
 | 0, _, _, _, _, _, _, _, _ => none
 | k + 1, x0, x1, x2, x7, x8, x9, x10, x46 => if x46 = true then (if x10 = 2 then (if (x9.length : Int) > 0 then (none) else (standstilllaw08_PairCodes.j1 k x0 x7 x8)) else (none)) else ((standstillref08_Decode.f k x1 x2).bind fun bt235 => (if bt235.2 = true then (if x10 = 0 then ((standstilllaw08_same.f k x9 bt235.1).bind fun t239 => (if t239 = true then (standstilllaw08_PairCodes.j1 k x0 x7 x8) else (none))) else (none)) else (if x10 = 6 then (if (x9.length : Int) > 0 then (none) else (standstilllaw08_PairCodes.j1 k x0 x7 x8)) else (none))))
def standstilllaw08_PairCodes.j1 : Nat → List Int → Int → Int → Option (Bool)
 | 0, _, _, _ => none
 | k + 1, x0, x7, x8 => (standstillref08_Contents.f k x0).bind fun t240 => (if t240 = true then (standstilllaw08_PairCodes.l0 k x0 x7 x8 0) else (if x8 = 2 then (if x7 = 0 then ((standstilllaw08_awake.f k).bind fun t241 => (some t241)) else (none)) else (none)))
def standstilllaw08_PairCodes.l0 : Nat → List Int → Int → Int → Int → Option (Bool)
 | 0, _, _, _, _ => none
 | k + 1, x0, x7, x8, x13 => if x13 < (x0.length : Int) then (if 0 ≤ x13 then (if (rd x0 x13) > 60 then (if x8 = 4 then (if x7 = 0 then ((standstilllaw08_awake.f k).bind fun t243 => (some t243)) else (none)) else (none)) else (standstilllaw08_PairCodes.l0 k x0 x7 x8 (wrap64 (x13 + 1)))) else (none)) else ((standstillref08_Encode.f k x0).bind fun bt244 => (if bt244.2 = true then ((pair_Decode.f k x7 (x0.length : Int)).bind fun bt246 => (if x8 = 0 then (if x7 = bt244.1 then (if bt246.2 = 0 then ((standstilllaw08_same.f k bt246.1 x0).bind fun t250 => (if t250 = true then ((standstilllaw08_awake.f k).bind fun t251 => (some t251)) else (none))) else (none)) else (none)) else (none))) else (if x8 = 4 then (if x7 = 0 then ((standstilllaw08_awake.f k).bind fun t252 => (some t252)) else (none)) else (none))))
end
def standstilllaw08_PairCodes.f (k : Nat) (l0 : List Int) (a1 : Int) (a2 : Int) : Option (Bool) := if (l0.length : Int) > 100 then ((standstilllaw08_awake.f k).bind fun t228 => (some t228)) else ((pair_Encode.f k l0).bind fun bt229 => ((pair_Decode.f k a1 a2).bind fun bt231 => (if a1 < 1 then (standstilllaw08_PairCodes.j0 k l0 a1 a2 bt229.1 bt229.2 bt231.1 bt231.2 true) else (if a1 > 1152921504606846976 then (standstilllaw08_PairCodes.j0 k l0 a1 a2 bt229.1 bt229.2 bt231.1 bt231.2 true) else (if a2 < 1 then (standstilllaw08_PairCodes.j0 k l0 a1 a2 bt229.1 bt229.2 bt231.1 bt231.2 true) else (standstilllaw08_PairCodes.j0 k l0 a1 a2 bt229.1 bt229.2 bt231.1 bt231.2 (decide (a2 > 6))))))))
theorem standstilllaw08_PairCodes.mono_l : ∀ k, (∀ y0 y1 y2 y3 y4 y5 y6 y7, LeO (standstilllaw08_PairCodes.j0 k y0 y1 y2 y3 y4 y5 y6 y7) (standstilllaw08_PairCodes.j0 (k + 1) y0 y1 y2 y3 y4 y5 y6 y7)) ∧ (∀ y0 y1 y2, LeO (standstilllaw08_PairCodes.j1 k y0 y1 y2) (standstilllaw08_PairCodes.j1 (k + 1) y0 y1 y2)) ∧ (∀ y0 y1 y2 y3, LeO (standstilllaw08_PairCodes.l0 k y0 y1 y2 y3) (standstilllaw08_PairCodes.l0 (k + 1) y0 y1 y2 y3))
 | 0 => ⟨fun _ _ _ _ _ _ _ _ r h => by simp [standstilllaw08_PairCodes.j0] at h, fun _ _ _ r h => by simp [standstilllaw08_PairCodes.j1] at h, fun _ _ _ _ r h => by simp [standstilllaw08_PairCodes.l0] at h⟩
 | k + 1 => by
  obtain ⟨ih0, ih1, ih2⟩ := standstilllaw08_PairCodes.mono_l k
  refine ⟨?_, ?_, ?_⟩
  ·intro y0 y1 y2 y3 y4 y5 y6 y7
   unfold standstilllaw08_PairCodes.j0
   repeat' first
   | (with_reducible exact ih0 _ _ _ _ _ _ _ _)
   | (with_reducible exact ih1 _ _ _)
   | (with_reducible exact ih2 _ _ _ _)
   | (with_reducible exact pair_Decode.mono _ _ _)
   | (with_reducible exact pair_Encode.mono _ _)
   | (with_reducible exact standstilllaw08_awake.mono _)
   | (with_reducible exact standstilllaw08_same.mono _ _ _)
   | (with_reducible exact standstillref08_Contents.mono _ _)
   | (with_reducible exact standstillref08_Decode.mono _ _ _)
   | (with_reducible exact standstillref08_Encode.mono _ _)
   | (with_reducible exact LeO.refl _)
   | (with_reducible exact LeO.none _)
   | (with_reducible refine LeO.ite ?_ ?_)
   | (with_reducible refine LeO.bind ?_ (fun _ => ?_))
   | exact ih0 _ _ _ _ _ _ _ _
   | exact ih1 _ _ _
   | exact ih2 _ _ _ _
   | exact pair_Decode.mono _ _ _
   | exact pair_Encode.mono _ _
   | exact standstilllaw08_awake.mono _
   | exact standstilllaw08_same.mono _ _ _
   | exact standstillref08_Contents.mono _ _
   | exact standstillref08_Decode.mono _ _ _
   | exact standstillref08_Encode.mono _ _
   | exact LeO.none _
   | refine LeO.ite ?_ ?_
   | refine LeO.bind ?_ (fun _ => ?_)
  ·intro y0 y1 y2
   unfold standstilllaw08_PairCodes.j1
   repeat' first
   | (with_reducible exact ih0 _ _ _ _ _ _ _ _)
   | (with_reducible exact ih1 _ _ _)
   | (with_reducible exact ih2 _ _ _ _)
   | (with_reducible exact pair_Decode.mono _ _ _)
   | (with_reducible exact pair_Encode.mono _ _)
   | (with_reducible exact standstilllaw08_awake.mono _)
   | (with_reducible exact standstilllaw08_same.mono _ _ _)
   | (with_reducible exact standstillref08_Contents.mono _ _)
   | (with_reducible exact standstillref08_Decode.mono _ _ _)
   | (with_reducible exact standstillref08_Encode.mono _ _)
   | (with_reducible exact LeO.refl _)
   | (with_reducible exact LeO.none _)
   | (with_reducible refine LeO.ite ?_ ?_)
   | (with_reducible refine LeO.bind ?_ (fun _ => ?_))
   | exact ih0 _ _ _ _ _ _ _ _
   | exact ih1 _ _ _
   | exact ih2 _ _ _ _
   | exact pair_Decode.mono _ _ _
   | exact pair_Encode.mono _ _
   | exact standstilllaw08_awake.mono _
   | exact standstilllaw08_same.mono _ _ _
   | exact standstillref08_Contents.mono _ _
   | exact standstillref08_Decode.mono _ _ _
   | exact standstillref08_Encode.mono _ _
   | exact LeO.none _
   | refine LeO.ite ?_ ?_
   | refine LeO.bind ?_ (fun _ => ?_)
  ·intro y0 y1 y2 y3
   unfold standstilllaw08_PairCodes.l0
   repeat' first
   | (with_reducible exact ih0 _ _ _ _ _ _ _ _)
   | (with_reducible exact ih1 _ _ _)
   | (with_reducible exact ih2 _ _ _ _)
   | (with_reducible exact pair_Decode.mono _ _ _)
   | (with_reducible exact pair_Encode.mono _ _)
   | (with_reducible exact standstilllaw08_awake.mono _)
   | (with_reducible exact standstilllaw08_same.mono _ _ _)
   | (with_reducible exact standstillref08_Contents.mono _ _)
   | (with_reducible exact standstillref08_Decode.mono _ _ _)
   | (with_reducible exact standstillref08_Encode.mono _ _)
   | (with_reducible exact LeO.refl _)
   | (with_reducible exact LeO.none _)
   | (with_reducible refine LeO.ite ?_ ?_)
   | (with_reducible refine LeO.bind ?_ (fun _ => ?_))
   | exact ih0 _ _ _ _ _ _ _ _
   | exact ih1 _ _ _
   | exact ih2 _ _ _ _
   | exact pair_Decode.mono _ _ _
   | exact pair_Encode.mono _ _
   | exact standstilllaw08_awake.mono _
   | exact standstilllaw08_same.mono _ _ _
   | exact standstillref08_Contents.mono _ _
   | exact standstillref08_Decode.mono _ _ _
   | exact standstillref08_Encode.mono _ _
   | exact LeO.none _
   | refine LeO.ite ?_ ?_
   | refine LeO.bind ?_ (fun _ => ?_)
theorem standstilllaw08_PairCodes.mono : ∀ a0 a1 a2 k, LeO (standstilllaw08_PairCodes.f k a0 a1 a2) (standstilllaw08_PairCodes.f (k + 1) a0 a1 a2) := by
 intro a0 a1 a2 k
 obtain ⟨ih0, ih1, ih2⟩ := standstilllaw08_PairCodes.mono_l k
 unfold standstilllaw08_PairCodes.f
 repeat' first
   | (with_reducible exact ih0 _ _ _ _ _ _ _ _)
   | (with_reducible exact ih1 _ _ _)
   | (with_reducible exact ih2 _ _ _ _)
   | (with_reducible exact pair_Decode.mono _ _ _)
   | (with_reducible exact pair_Encode.mono _ _)
   | (with_reducible exact standstilllaw08_awake.mono _)
   | (with_reducible exact standstilllaw08_same.mono _ _ _)
   | (with_reducible exact standstillref08_Contents.mono _ _)
   | (with_reducible exact standstillref08_Decode.mono _ _ _)
   | (with_reducible exact standstillref08_Encode.mono _ _)
   | (with_reducible exact LeO.refl _)
   | (with_reducible exact LeO.none _)
   | (with_reducible refine LeO.ite ?_ ?_)
   | (with_reducible refine LeO.bind ?_ (fun _ => ?_))
   | exact ih0 _ _ _ _ _ _ _ _
   | exact ih1 _ _ _
   | exact ih2 _ _ _ _
   | exact pair_Decode.mono _ _ _
   | exact pair_Encode.mono _ _
   | exact standstilllaw08_awake.mono _
   | exact standstilllaw08_same.mono _ _ _
   | exact standstillref08_Contents.mono _ _
   | exact standstillref08_Decode.mono _ _ _
   | exact standstillref08_Encode.mono _ _
   | exact LeO.none _
   | refine LeO.ite ?_ ?_
   | refine LeO.bind ?_ (fun _ => ?_)
set_option maxHeartbeats 8000000 in
set_option maxRecDepth 100000 in
theorem standstilllaw08_PairCodes.calls (k : Nat) (A0 : Option Addr) (c0 : Nat) (l0 : List Int) (a1 : Int) (a2 : Int) (r : Bool) (w : World) (hr0 : Kd.C (Kd.int .i64) w A0 l0.length l0) (hc0 : l0.length ≤ c0) (h : standstilllaw08_PairCodes.f k l0 a1 a2 = some r) :
  Calls Try.prog 3 #[.slice A0 l0.length c0, .int .i64 a1, .int .i64 a2] w fun e w' => e = .returned (.bool r) ∧ Below w.heap.size w w' := by
 have HR0 := Aside0.mk hr0
 have HC0 := Aside0.mk hc0
 clear hr0 hc0
 have HB := A_ (Below.refl w.heap.size w)
 have H : (if (l0.length : Int) > 100 then ((standstilllaw08_awake.f k).bind fun t228 => (some t228)) else ((pair_Encode.f k l0).bind fun bt229 => ((pair_Decode.f k a1 a2).bind fun bt231 => (if a1 < 1 then (standstilllaw08_PairCodes.j0 k l0 a1 a2 bt229.1 bt229.2 bt231.1 bt231.2 true) else (if a1 > 1152921504606846976 then (standstilllaw08_PairCodes.j0 k l0 a1 a2 bt229.1 bt229.2 bt231.1 bt231.2 true) else (if a2 < 1 then (standstilllaw08_PairCodes.j0 k l0 a1 a2 bt229.1 bt229.2 bt231.1 bt231.2 true) else (standstilllaw08_PairCodes.j0 k l0 a1 a2 bt229.1 bt229.2 bt231.1 bt231.2 (decide (a2 > 6))))))))) = some r := h
 clear h
 by_cases c4 : (l0.length : Int) > 100
 ·rw [if_pos c4] at H
  have c4b0 : decide (100 < (l0.length : Int)) = true := decide_eq_true c4
  have c4b1 : decide (100 < l0.length) = true := decide_eq_true (by omega)
  clear c4
  replace H := Option.bind_eq_some_iff.mp H
  obtain ⟨t228, A50, H⟩ := H
  replace H : (some t228) = some r := H
  have A5 := Aside0.mk A50
  clear A50
  obtain rfl := Option.some.inj H
  go_enter Try.func3, Try.ntmps3
  go_wp2_with (first | ((with_reducible refine gate_callee (f := 7) rfl ?_); refine goesL_ (some 21) rfl rfl Try.func7 (by kernel_rfl) rfl #[] rfl gl_ ?_; (with_reducible refine (standstilllaw08_awake.calls k  t228 _ A5.out).mono ?_); rintro e w6 ⟨rfl, hb⟩; refine ⟨_, rfl, ?_⟩; have n0_ := A_ (below_step (bk_ HB.out) hb); clear HB; have HB := n0_; clear n0_; (try clear hb); (try clear hb2); (try clear hk); (try clear hi)))
  go_ret
  exact ⟨er_, bk_ HB.out⟩
 ·rw [if_neg c4] at H
  have c4b0 : decide (100 < (l0.length : Int)) = false := decide_eq_false c4
  have c4b1 : decide (100 < l0.length) = false := decide_eq_false (by omega)
  clear c4
  replace H := Option.bind_eq_some_iff.mp H
  obtain ⟨⟨t229, t230⟩, A70, H⟩ := H
  replace H : ((pair_Decode.f k a1 a2).bind fun bt231 => (if a1 < 1 then (standstilllaw08_PairCodes.j0 k l0 a1 a2 t229 t230 bt231.1 bt231.2 true) else (if a1 > 1152921504606846976 then (standstilllaw08_PairCodes.j0 k l0 a1 a2 t229 t230 bt231.1 bt231.2 true) else (if a2 < 1 then (standstilllaw08_PairCodes.j0 k l0 a1 a2 t229 t230 bt231.1 bt231.2 true) else (standstilllaw08_PairCodes.j0 k l0 a1 a2 t229 t230 bt231.1 bt231.2 (decide (a2 > 6))))))) = some r := H
  have A7 := Aside0.mk A70
  clear A70
  replace H := Option.bind_eq_some_iff.mp H
  obtain ⟨⟨t231, t232⟩, A80, H⟩ := H
  replace H : (if a1 < 1 then (standstilllaw08_PairCodes.j0 k l0 a1 a2 t229 t230 t231 t232 true) else (if a1 > 1152921504606846976 then (standstilllaw08_PairCodes.j0 k l0 a1 a2 t229 t230 t231 t232 true) else (if a2 < 1 then (standstilllaw08_PairCodes.j0 k l0 a1 a2 t229 t230 t231 t232 true) else (standstilllaw08_PairCodes.j0 k l0 a1 a2 t229 t230 t231 t232 (decide (a2 > 6)))))) = some r := H
  have A8 := Aside0.mk A80
  clear A80
  have HC9 := Aside0.mk H
  clear H
  go_enter Try.func3, Try.ntmps3
  go_upto_region 5 with (first | ((with_reducible refine gate_callee (f := 8) rfl ?_); refine goesL_ (some 24) rfl rfl Try.func8 (by kernel_rfl) rfl #[.slice A0 l0.length c0] rfl gl_ ?_; (with_reducible refine (pair_Encode.calls k _ _ l0 t229 t230 _ ?side1 ?side2 A7.out).mono ?_); (case side1 => repeat (first | exact HR0.out | (with_reducible refine Kd.C_alloc ?_ _) | (with_reducible refine Kd.C_drewN ?_ _) | (with_reducible refine Kd.C_drew ?_))); (case side2 => exact HC0.out); rintro e w10 ⟨rfl, hb⟩; refine ⟨_, rfl, ?_⟩; have n0_ := A_ (below_step (bk_ HB.out) hb); clear HB; have HB := n0_; clear n0_; (try clear hb); (try clear hb2); (try clear hk); (try clear hi)) | ((with_reducible refine gate_callee (f := 9) rfl ?_); refine goesL_ (some 30) rfl rfl Try.func9 (by kernel_rfl) rfl #[.int .i64 a1, .int .i64 a2] rfl gl_ ?_; (with_reducible refine (pair_Decode.calls k a1 a2 t231 t232 _ A8.out).mono ?_); rintro e w11 ⟨v233, rfl, ho0, hb⟩; refine ⟨_, rfl, ?_⟩; have n0_ := A_ (Kd.R_lower ho0 (below_size (bk_ HB.out))); have n1_ := A_ (below_step (bk_ HB.out) hb); clear HB; have HO234 := n0_; have HB := n1_; clear n0_ n1_; (try clear hb); (try clear hb2); (try clear hk); (try clear hi); (try clear ho0)))
  (try simp only [Act.put, List.setIfInBounds_toArray, List.set_cons_zero, List.set_cons_succ])
  go_cut [46] (fun v46 wc => ∃ (kq : Nat) (x46_8 : Bool), v46 = .bool x46_8 ∧ Aside0 (standstilllaw08_PairCodes.j0 kq l0 a1 a2 t229 t230 t231 t232 x46_8 = some r) ∧ Aside0 (kq ≤ k) ∧ Aside0 (Kd.R (Kd.int .i64) 3 wc w.heap.size (fun _ => True) v233 t231) ∧ Aside0 (Below w.heap.size w wc))
  case first =>
   have H := HC9.out
   clear HC9
   by_cases c12 : a1 < 1
   ·rw [if_pos c12] at H
    have c12b0 : decide (a1 < 1) = true := decide_eq_true c12
    clear c12
    (first | rw [c12b0] | (simp only [i64_w, i32_w]; rw [c12b0]) | skip)
    have H' := Aside0.mk H
    clear H
    go_wp2
    go_meet
    case rel => exact ⟨_, (true), jr_, H', ⟨by first | omega | exact Nat.le_refl _⟩, ⟨rk_ HO234.out⟩, ⟨bk_ HB.out⟩⟩
   ·rw [if_neg c12] at H
    have c12b0 : decide (a1 < 1) = false := decide_eq_false c12
    clear c12
    (first | rw [c12b0] | (simp only [i64_w, i32_w]; rw [c12b0]) | skip)
    by_cases c13 : a1 > 1152921504606846976
    ·rw [if_pos c13] at H
     have c13b0 : decide (1152921504606846976 < a1) = true := decide_eq_true c13
     clear c13
     have H' := Aside0.mk H
     clear H
     go_wp2
     go_meet
     case rel => exact ⟨_, (true), jr_, H', ⟨by first | omega | exact Nat.le_refl _⟩, ⟨rk_ HO234.out⟩, ⟨bk_ HB.out⟩⟩
    ·rw [if_neg c13] at H
     have c13b0 : decide (1152921504606846976 < a1) = false := decide_eq_false c13
     clear c13
     by_cases c14 : a2 < 1
     ·rw [if_pos c14] at H
      have c14b0 : decide (a2 < 1) = true := decide_eq_true c14
      clear c14
      have H' := Aside0.mk H
      clear H
      go_wp2
      go_meet
      case rel => exact ⟨_, (true), jr_, H', ⟨by first | omega | exact Nat.le_refl _⟩, ⟨rk_ HO234.out⟩, ⟨bk_ HB.out⟩⟩
     ·rw [if_neg c14] at H
      have c14b0 : decide (a2 < 1) = false := decide_eq_false c14
      clear c14
      have H' := Aside0.mk H
      clear H
      go_wp2
      go_meet
      case rel => exact ⟨_, (decide (a2 > 6)), jr_, H', ⟨by first | omega | exact Nat.le_refl _⟩, ⟨rk_ HO234.out⟩, ⟨bk_ HB.out⟩⟩
  case rest =>
   clear HC9
   (try clear c4); (try clear c4b0); (try clear c4b1)
   obtain ⟨kq, x46_8, rfl, HA, HJ8, HO_9, HB⟩ := hcut
   cases kq with
   | zero => exact absurd HA.out (by simp [standstilllaw08_PairCodes.j0])
   | succ kj8 =>
    have H := HA.out
    clear HA
    simp only [standstilllaw08_PairCodes.j0] at H
    have HC15 := Aside0.mk H
    clear H
    go_upto_if 46 with (fail)
    go_cut [] (fun wc => ∃ (kq : Nat), Aside0 (standstilllaw08_PairCodes.j1 kq l0 t229 t230 = some r) ∧ Aside0 (kq ≤ kj8) ∧ Aside0 (Below w.heap.size w wc))
    case first =>
     have H := HC15.out
     clear HC15
     by_cases c16 : x46_8 = true
     ·subst c16
      have H1 : (if t232 = 2 then (if (t231.length : Int) > 0 then (none) else (standstilllaw08_PairCodes.j1 kj8 l0 t229 t230)) else (none)) = some r := by rw [if_pos rfl] at H; exact H
      clear H
      have H := H1
      clear H1
      by_cases c17 : t232 = 2
      ·rw [if_pos c17] at H
       have c17b0 : (t232 == 2) = true := beq_iff_eq.mpr c17
       have c17b1 : (t232 != 2) = false := bne_eq_false_iff_eq.mpr c17
       clear c17
       (first | rw [c17b0] | (simp only [i64_w, i32_w]; rw [c17b0]) | skip)
       by_cases c18 : (t231.length : Int) > 0
       ·rw [if_pos c18] at H
        exact absurd H (by simp)
       ·rw [if_neg c18] at H
        have c18b0 : decide (0 < (t231.length : Int)) = false := decide_eq_false c18
        have c18b1 : decide (0 < t231.length) = false := decide_eq_false (by omega)
        clear c18
        have H' := Aside0.mk H
        clear H
        obtain ⟨Ao19, co19, eo19⟩ := Kd.R_slice HO_9.out
        subst eo19
        go_wp2
        go_meet
        case rel => exact ⟨_, H', ⟨by have := HJ8.out; first | omega | exact Nat.le_refl _⟩, ⟨bk_ HB.out⟩⟩
      ·rw [if_neg c17] at H
       exact absurd H (by simp)
     ·replace c16 := Bool.eq_false_iff.mpr c16
      subst c16
      have H1 : ((standstillref08_Decode.f kj8 a1 a2).bind fun bt235 => (if bt235.2 = true then (if t232 = 0 then ((standstilllaw08_same.f kj8 t231 bt235.1).bind fun t239 => (if t239 = true then (standstilllaw08_PairCodes.j1 kj8 l0 t229 t230) else (none))) else (none)) else (if t232 = 6 then (if (t231.length : Int) > 0 then (none) else (standstilllaw08_PairCodes.j1 kj8 l0 t229 t230)) else (none)))) = some r := by rw [if_neg (show ¬ (false = true) by decide)] at H; exact H
      clear H
      have H := H1
      clear H1
      replace H := Option.bind_eq_some_iff.mp H
      obtain ⟨⟨t235, t236⟩, A200, H⟩ := H
      replace H : (if t236 = true then (if t232 = 0 then ((standstilllaw08_same.f kj8 t231 t235).bind fun t239 => (if t239 = true then (standstilllaw08_PairCodes.j1 kj8 l0 t229 t230) else (none))) else (none)) else (if t232 = 6 then (if (t231.length : Int) > 0 then (none) else (standstilllaw08_PairCodes.j1 kj8 l0 t229 t230)) else (none))) = some r := H
      have A20 := Aside0.mk A200
      clear A200
      by_cases c21 : t236 = true
      ·subst c21
       have H1 : (if t232 = 0 then ((standstilllaw08_same.f kj8 t231 t235).bind fun t239 => (if t239 = true then (standstilllaw08_PairCodes.j1 kj8 l0 t229 t230) else (none))) else (none)) = some r := by rw [if_pos rfl] at H; exact H
       clear H
       have H := H1
       clear H1
       by_cases c22 : t232 = 0
       ·rw [if_pos c22] at H
        have c22b0 : (t232 == 0) = true := beq_iff_eq.mpr c22
        have c22b1 : (t232 != 0) = false := bne_eq_false_iff_eq.mpr c22
        clear c22
        replace H := Option.bind_eq_some_iff.mp H
        obtain ⟨t239, A230, H⟩ := H
        replace H : (if t239 = true then (standstilllaw08_PairCodes.j1 kj8 l0 t229 t230) else (none)) = some r := H
        have A23 := Aside0.mk A230
        clear A230
        by_cases c24 : t239 = true
        ·subst c24
         have H1 : (standstilllaw08_PairCodes.j1 kj8 l0 t229 t230) = some r := by rw [if_pos rfl] at H; exact H
         clear H
         have H := H1
         clear H1
         have H' := Aside0.mk H
         clear H
         go_wp2_with (first | ((with_reducible refine gate_callee (f := 10) rfl ?_); refine goesL_ (some 57) rfl rfl Try.func10 (by kernel_rfl) rfl #[.int .i64 a1, .int .i64 a2] rfl gl_ ?_; (with_reducible refine (standstillref08_Decode.calls kj8 a1 a2 t235 true _ A20.out).mono ?_); rintro e w25 ⟨v237, rfl, ho0, hb⟩; refine ⟨_, rfl, ?_⟩; have n0_ := A_ (Kd.R_elder' (rk_ HO_9.out) (Kd.R_base ho0) hb); have n1_ := A_ (Kd.R_lower (Kd.R_new' ho0 (Kd.R_lt (rk_ HO_9.out))) (below_size (bk_ HB.out))); have n2_ := A_ (below_step (bk_ HB.out) hb); clear HO_9 HB; have HO_9 := n0_; have HO238 := n1_; have HB := n2_; clear n0_ n1_ n2_; (try clear hb); (try clear hb2); (try clear hk); (try clear hi); (try clear ho0); obtain ⟨Ao26, co26, eo26⟩ := Kd.R_slice HO_9.out; subst eo26; obtain ⟨Ao27, co27, eo27⟩ := Kd.R_slice HO238.out; subst eo27) | (go_at_call 11; (with_reducible refine (standstilllaw08_same.calls kj8 _ _ t231 _ _ t235 true _ ?side1 ?side2 ?side3 ?side4 A23.out).mono ?_); (case side1 => repeat (first | exact (Kd.R_reads' HO_9.out).2.2 | (with_reducible refine Kd.C_alloc ?_ _) | (with_reducible refine Kd.C_drewN ?_ _) | (with_reducible refine Kd.C_drew ?_))); (case side2 => exact (Kd.R_reads' HO_9.out).2.1); (case side3 => repeat (first | exact (Kd.R_reads' HO238.out).2.2 | (with_reducible refine Kd.C_alloc ?_ _) | (with_reducible refine Kd.C_drewN ?_ _) | (with_reducible refine Kd.C_drew ?_))); (case side4 => exact (Kd.R_reads' HO238.out).2.1); rintro e w28 ⟨rfl, hb⟩; have n0_ := A_ (Kd.R_below (rk_ HO_9.out) hb); have n2_ := A_ (below_step (bk_ HB.out) hb); clear HO_9 HB; have HO_9 := n0_; have HB := n2_; clear n0_ n2_; (try clear hb); (try clear hb2); (try clear hk); (try clear hi)))
         go_meet
         case rel => exact ⟨_, H', ⟨by have := HJ8.out; first | omega | exact Nat.le_refl _⟩, ⟨bk_ HB.out⟩⟩
        ·replace c24 := Bool.eq_false_iff.mpr c24
         subst c24
         have H1 : (none) = some r := by rw [if_neg (show ¬ (false = true) by decide)] at H; exact H
         clear H
         have H := H1
         clear H1
         exact absurd H (by simp)
       ·rw [if_neg c22] at H
        exact absurd H (by simp)
      ·replace c21 := Bool.eq_false_iff.mpr c21
       subst c21
       have H1 : (if t232 = 6 then (if (t231.length : Int) > 0 then (none) else (standstilllaw08_PairCodes.j1 kj8 l0 t229 t230)) else (none)) = some r := by rw [if_neg (show ¬ (false = true) by decide)] at H; exact H
       clear H
       have H := H1
       clear H1
       by_cases c29 : t232 = 6
       ·rw [if_pos c29] at H
        have c29b0 : (t232 == 6) = true := beq_iff_eq.mpr c29
        have c29b1 : (t232 != 6) = false := bne_eq_false_iff_eq.mpr c29
        clear c29
        by_cases c30 : (t231.length : Int) > 0
        ·rw [if_pos c30] at H
         exact absurd H (by simp)
        ·rw [if_neg c30] at H
         have c30b0 : decide (0 < (t231.length : Int)) = false := decide_eq_false c30
         have c30b1 : decide (0 < t231.length) = false := decide_eq_false (by omega)
         clear c30
         have H' := Aside0.mk H
         clear H
         go_wp2_with (first | ((with_reducible refine gate_callee (f := 10) rfl ?_); refine goesL_ (some 57) rfl rfl Try.func10 (by kernel_rfl) rfl #[.int .i64 a1, .int .i64 a2] rfl gl_ ?_; (with_reducible refine (standstillref08_Decode.calls kj8 a1 a2 t235 false _ A20.out).mono ?_); rintro e w31 ⟨v237, rfl, ho0, hb⟩; refine ⟨_, rfl, ?_⟩; have n0_ := A_ (Kd.R_elder' (rk_ HO_9.out) (Kd.R_base ho0) hb); have n2_ := A_ (below_step (bk_ HB.out) hb); clear HO_9 HB; have HO_9 := n0_; have HB := n2_; clear n0_ n2_; (try clear hb); (try clear hb2); (try clear hk); (try clear hi); (try clear ho0); obtain ⟨Ao32, co32, eo32⟩ := Kd.R_slice HO_9.out; subst eo32))
         go_meet
         case rel => exact ⟨_, H', ⟨by have := HJ8.out; first | omega | exact Nat.le_refl _⟩, ⟨bk_ HB.out⟩⟩
       ·rw [if_neg c29] at H
        exact absurd H (by simp)
    case rest =>
     clear HC15
     (try clear c4); (try clear c4b0); (try clear c4b1)
     obtain ⟨kq, HA, HJ14, HB⟩ := hcut
     cases kq with
     | zero => exact absurd HA.out (by simp [standstilllaw08_PairCodes.j1])
     | succ kj14 =>
      have H := HA.out
      clear HA
      simp only [standstilllaw08_PairCodes.j1] at H
      replace H := Option.bind_eq_some_iff.mp H
      obtain ⟨t240, A330, H⟩ := H
      replace H : (if t240 = true then (standstilllaw08_PairCodes.l0 kj14 l0 t229 t230 0) else (if t230 = 2 then (if t229 = 0 then ((standstilllaw08_awake.f kj14).bind fun t241 => (some t241)) else (none)) else (none))) = some r := H
      have A33 := Aside0.mk A330
      clear A330
      by_cases c34 : t240 = true
      ·subst c34
       have H1 : (standstilllaw08_PairCodes.l0 kj14 l0 t229 t230 0) = some r := by rw [if_pos rfl] at H; exact H
       clear H
       have H := H1
       clear H1
       have H' := Aside0.mk H
       clear H
       go_wp2_with (first | ((with_reducible refine gate_callee (f := 12) rfl ?_); refine goesL_ (some 85) rfl rfl Try.func12 (by kernel_rfl) rfl #[.slice A0 l0.length c0] rfl gl_ ?_; (with_reducible refine (standstillref08_Contents.calls kj14 _ _ l0 true _ ?side1 ?side2 A33.out).mono ?_); (case side1 => exact ck_ (Kd.C_below HR0.out HB.out)); (case side2 => exact HC0.out); rintro e w' ⟨rfl, ⟨nd, rfl⟩⟩; refine ⟨_, rfl, ?_⟩))
       go_loopg [13] kj14 (fun kq v13 w' => ∃ (x13_3 : Int), v13 = .int .i64 x13_3 ∧ Aside0 (standstilllaw08_PairCodes.l0 kq l0 t229 t230 x13_3 = some r) ∧ Aside0 (kq ≤ kj14) ∧ Aside0 (Below w.heap.size w w'))
       case atStart => exact ⟨(0), jr_, H', ⟨Nat.le_refl _⟩, ⟨bk_ HB.out⟩⟩
       case round =>
        clear H'
        (try clear c4); (try clear c4b0); (try clear c4b1); (try clear c34)
        obtain ⟨x13_3, rfl, HA, HK3, HB⟩ := hrel
        cases gk with
        | zero => exact absurd HA.out (by simp [standstilllaw08_PairCodes.l0])
        | succ k3 =>
         have H := HA.out
         clear HA
         simp only [standstilllaw08_PairCodes.l0] at H
         by_cases c35 : x13_3 < (l0.length : Int)
         ·rw [if_pos c35] at H
          have c35b0 : decide (x13_3 < (l0.length : Int)) = true := decide_eq_true c35
          clear c35
          by_cases c36 : 0 ≤ x13_3
          ·rw [if_pos c36] at H
           have c36b0 : decide (0 ≤ x13_3) = true := decide_eq_true c36
           clear c36
           by_cases c37 : (rd l0 x13_3) > 60
           ·rw [if_pos c37] at H
            have c37b0 : decide (60 < (rd l0 x13_3)) = true := decide_eq_true c37
            clear c37
            by_cases c38 : t230 = 4
            ·rw [if_pos c38] at H
             have c38b0 : (t230 == 4) = true := beq_iff_eq.mpr c38
             have c38b1 : (t230 != 4) = false := bne_eq_false_iff_eq.mpr c38
             clear c38
             by_cases c39 : t229 = 0
             ·rw [if_pos c39] at H
              have c39b0 : (t229 == 0) = true := beq_iff_eq.mpr c39
              have c39b1 : (t229 != 0) = false := bne_eq_false_iff_eq.mpr c39
              clear c39
              replace H := Option.bind_eq_some_iff.mp H
              obtain ⟨t243, A400, H⟩ := H
              replace H : (some t243) = some r := H
              have A40 := Aside0.mk A400
              clear A400
              obtain rfl := Option.some.inj H
              have p242 : 0 ≤ (x13_3 : Int) := od_
              have q242 : x13_3 < (l0.length : Int) := od_
              obtain ⟨ad242, e242, hx242_0⟩ := Kd.at_int HR0.out x13_3 p242 q242
              cases e242
              replace hx242_0 := lf_ HB.out hx242_0
              replace p242 := eq_true p242
              replace q242 := eq_true q242
              go_wp2_with (first | (go_at_call 7; (with_reducible refine (standstilllaw08_awake.calls k3  t243 _ A40.out).mono ?_); rintro e w41 ⟨rfl, hb⟩; have n0_ := A_ (below_step (bk_ HB.out) hb); clear HB; have HB := n0_; clear n0_; (try clear hb); (try clear hb2); (try clear hk); (try clear hi)))
              go_ret
              exact ⟨er_, bk_ HB.out⟩
             ·rw [if_neg c39] at H
              exact absurd H (by simp)
            ·rw [if_neg c38] at H
             exact absurd H (by simp)
           ·rw [if_neg c37] at H
            have c37b0 : decide (60 < (rd l0 x13_3)) = false := decide_eq_false c37
            clear c37
            have H' := Aside0.mk H
            clear H
            have p242 : 0 ≤ (x13_3 : Int) := od_
            have q242 : x13_3 < (l0.length : Int) := od_
            obtain ⟨ad242, e242, hx242_0⟩ := Kd.at_int HR0.out x13_3 p242 q242
            cases e242
            replace hx242_0 := lf_ HB.out hx242_0
            replace p242 := eq_true p242
            replace q242 := eq_true q242
            go_wp2
            go_roundg k3
            case measure => have := HJ8.out; have := HJ14.out; have := HK3.out; omega
            case rel => exact ⟨(wrap64 (x13_3 + 1)), jr_, H', ⟨by have := HJ8.out; have := HJ14.out; have := HK3.out; omega⟩, ⟨bk_ HB.out⟩⟩
          ·rw [if_neg c36] at H
           exact absurd H (by simp)
         ·rw [if_neg c35] at H
          have c35b0 : decide (x13_3 < (l0.length : Int)) = false := decide_eq_false c35
          clear c35
          replace H := Option.bind_eq_some_iff.mp H
          obtain ⟨⟨t244, t245⟩, A420, H⟩ := H
          replace H : (if t245 = true then ((pair_Decode.f k3 t229 (l0.length : Int)).bind fun bt246 => (if t230 = 0 then (if t229 = t244 then (if bt246.2 = 0 then ((standstilllaw08_same.f k3 bt246.1 l0).bind fun t250 => (if t250 = true then ((standstilllaw08_awake.f k3).bind fun t251 => (some t251)) else (none))) else (none)) else (none)) else (none))) else (if t230 = 4 then (if t229 = 0 then ((standstilllaw08_awake.f k3).bind fun t252 => (some t252)) else (none)) else (none))) = some r := H
          have A42 := Aside0.mk A420
          clear A420
          by_cases c43 : t245 = true
          ·subst c43
           have H1 : ((pair_Decode.f k3 t229 (l0.length : Int)).bind fun bt246 => (if t230 = 0 then (if t229 = t244 then (if bt246.2 = 0 then ((standstilllaw08_same.f k3 bt246.1 l0).bind fun t250 => (if t250 = true then ((standstilllaw08_awake.f k3).bind fun t251 => (some t251)) else (none))) else (none)) else (none)) else (none))) = some r := by rw [if_pos rfl] at H; exact H
           clear H
           have H := H1
           clear H1
           replace H := Option.bind_eq_some_iff.mp H
           obtain ⟨⟨t246, t247⟩, A440, H⟩ := H
           replace H : (if t230 = 0 then (if t229 = t244 then (if t247 = 0 then ((standstilllaw08_same.f k3 t246 l0).bind fun t250 => (if t250 = true then ((standstilllaw08_awake.f k3).bind fun t251 => (some t251)) else (none))) else (none)) else (none)) else (none)) = some r := H
           have A44 := Aside0.mk A440
           clear A440
           by_cases c45 : t230 = 0
           ·rw [if_pos c45] at H
            have c45b0 : (t230 == 0) = true := beq_iff_eq.mpr c45
            have c45b1 : (t230 != 0) = false := bne_eq_false_iff_eq.mpr c45
            clear c45
            by_cases c46 : t229 = t244
            ·rw [if_pos c46] at H
             have c46b0 : (t229 == t244) = true := beq_iff_eq.mpr c46
             have c46b1 : (t229 != t244) = false := bne_eq_false_iff_eq.mpr c46
             clear c46
             by_cases c47 : t247 = 0
             ·rw [if_pos c47] at H
              have c47b0 : (t247 == 0) = true := beq_iff_eq.mpr c47
              have c47b1 : (t247 != 0) = false := bne_eq_false_iff_eq.mpr c47
              clear c47
              replace H := Option.bind_eq_some_iff.mp H
              obtain ⟨t250, A480, H⟩ := H
              replace H : (if t250 = true then ((standstilllaw08_awake.f k3).bind fun t251 => (some t251)) else (none)) = some r := H
              have A48 := Aside0.mk A480
              clear A480
              by_cases c49 : t250 = true
              ·subst c49
               have H1 : ((standstilllaw08_awake.f k3).bind fun t251 => (some t251)) = some r := by rw [if_pos rfl] at H; exact H
               clear H
               have H := H1
               clear H1
               replace H := Option.bind_eq_some_iff.mp H
               obtain ⟨t251, A500, H⟩ := H
               replace H : (some t251) = some r := H
               have A50 := Aside0.mk A500
               clear A500
               obtain rfl := Option.some.inj H
               go_wp2_with (first | ((with_reducible refine gate_callee (f := 13) rfl ?_); refine goesL_ (some 118) rfl rfl Try.func13 (by kernel_rfl) rfl #[.slice A0 l0.length c0] rfl gl_ ?_; (with_reducible refine (standstillref08_Encode.calls k3 _ _ l0 t244 true _ ?side1 ?side2 A42.out).mono ?_); (case side1 => exact ck_ (Kd.C_below HR0.out HB.out)); (case side2 => exact HC0.out); rintro e w51 ⟨rfl, hb⟩; refine ⟨_, rfl, ?_⟩; have n0_ := A_ (below_step (bk_ HB.out) hb); clear HB; have HB := n0_; clear n0_; (try clear hb); (try clear hb2); (try clear hk); (try clear hi)) | ((with_reducible refine gate_callee (f := 9) rfl ?_); refine goesL_ (some 136) rfl rfl Try.func9 (by kernel_rfl) rfl #[.int .i64 t229, .int .i64 (l0.length : Int)] rfl gl_ ?_; (with_reducible refine (pair_Decode.calls k3 t229 (l0.length : Int) t246 t247 _ A44.out).mono ?_); rintro e w52 ⟨v248, rfl, ho0, hb⟩; refine ⟨_, rfl, ?_⟩; have n0_ := A_ (Kd.R_lower ho0 (below_size (bk_ HB.out))); have n1_ := A_ (below_step (bk_ HB.out) hb); clear HB; have HO249 := n0_; have HB := n1_; clear n0_ n1_; (try clear hb); (try clear hb2); (try clear hk); (try clear hi); (try clear ho0); obtain ⟨Ao53, co53, eo53⟩ := Kd.R_slice HO249.out; subst eo53) | (go_at_call 11; (with_reducible refine (standstilllaw08_same.calls k3 _ _ t246 _ _ l0 true _ ?side1 ?side2 ?side3 ?side4 A48.out).mono ?_); (case side1 => repeat (first | exact (Kd.R_reads' HO249.out).2.2 | (with_reducible refine Kd.C_alloc ?_ _) | (with_reducible refine Kd.C_drewN ?_ _) | (with_reducible refine Kd.C_drew ?_))); (case side2 => exact (Kd.R_reads' HO249.out).2.1); (case side3 => exact ck_ (Kd.C_below HR0.out HB.out)); (case side4 => exact HC0.out); rintro e w54 ⟨rfl, hb⟩; have n1_ := A_ (below_step (bk_ HB.out) hb); clear HB; have HB := n1_; clear n1_; (try clear hb); (try clear hb2); (try clear hk); (try clear hi)) | (go_at_call 7; (with_reducible refine (standstilllaw08_awake.calls k3  t251 _ A50.out).mono ?_); rintro e w55 ⟨rfl, hb⟩; have n1_ := A_ (below_step (bk_ HB.out) hb); clear HB; have HB := n1_; clear n1_; (try clear hb); (try clear hb2); (try clear hk); (try clear hi)))
               go_ret
               exact ⟨er_, bk_ HB.out⟩
              ·replace c49 := Bool.eq_false_iff.mpr c49
               subst c49
               have H1 : (none) = some r := by rw [if_neg (show ¬ (false = true) by decide)] at H; exact H
               clear H
               have H := H1
               clear H1
               exact absurd H (by simp)
             ·rw [if_neg c47] at H
              exact absurd H (by simp)
            ·rw [if_neg c46] at H
             exact absurd H (by simp)
           ·rw [if_neg c45] at H
            exact absurd H (by simp)
          ·replace c43 := Bool.eq_false_iff.mpr c43
           subst c43
           have H1 : (if t230 = 4 then (if t229 = 0 then ((standstilllaw08_awake.f k3).bind fun t252 => (some t252)) else (none)) else (none)) = some r := by rw [if_neg (show ¬ (false = true) by decide)] at H; exact H
           clear H
           have H := H1
           clear H1
           by_cases c56 : t230 = 4
           ·rw [if_pos c56] at H
            have c56b0 : (t230 == 4) = true := beq_iff_eq.mpr c56
            have c56b1 : (t230 != 4) = false := bne_eq_false_iff_eq.mpr c56
            clear c56
            by_cases c57 : t229 = 0
            ·rw [if_pos c57] at H
             have c57b0 : (t229 == 0) = true := beq_iff_eq.mpr c57
             have c57b1 : (t229 != 0) = false := bne_eq_false_iff_eq.mpr c57
             clear c57
             replace H := Option.bind_eq_some_iff.mp H
             obtain ⟨t252, A580, H⟩ := H
             replace H : (some t252) = some r := H
             have A58 := Aside0.mk A580
             clear A580
             obtain rfl := Option.some.inj H
             go_wp2_with (first | ((with_reducible refine gate_callee (f := 13) rfl ?_); refine goesL_ (some 118) rfl rfl Try.func13 (by kernel_rfl) rfl #[.slice A0 l0.length c0] rfl gl_ ?_; (with_reducible refine (standstillref08_Encode.calls k3 _ _ l0 t244 false _ ?side1 ?side2 A42.out).mono ?_); (case side1 => exact ck_ (Kd.C_below HR0.out HB.out)); (case side2 => exact HC0.out); rintro e w59 ⟨rfl, hb⟩; refine ⟨_, rfl, ?_⟩; have n0_ := A_ (below_step (bk_ HB.out) hb); clear HB; have HB := n0_; clear n0_; (try clear hb); (try clear hb2); (try clear hk); (try clear hi)) | (go_at_call 7; (with_reducible refine (standstilllaw08_awake.calls k3  t252 _ A58.out).mono ?_); rintro e w60 ⟨rfl, hb⟩; have n0_ := A_ (below_step (bk_ HB.out) hb); clear HB; have HB := n0_; clear n0_; (try clear hb); (try clear hb2); (try clear hk); (try clear hi)))
             go_ret
             exact ⟨er_, bk_ HB.out⟩
            ·rw [if_neg c57] at H
             exact absurd H (by simp)
           ·rw [if_neg c56] at H
            exact absurd H (by simp)
      ·replace c34 := Bool.eq_false_iff.mpr c34
       subst c34
       have H1 : (if t230 = 2 then (if t229 = 0 then ((standstilllaw08_awake.f kj14).bind fun t241 => (some t241)) else (none)) else (none)) = some r := by rw [if_neg (show ¬ (false = true) by decide)] at H; exact H
       clear H
       have H := H1
       clear H1
       by_cases c61 : t230 = 2
       ·rw [if_pos c61] at H
        have c61b0 : (t230 == 2) = true := beq_iff_eq.mpr c61
        have c61b1 : (t230 != 2) = false := bne_eq_false_iff_eq.mpr c61
        clear c61
        by_cases c62 : t229 = 0
        ·rw [if_pos c62] at H
         have c62b0 : (t229 == 0) = true := beq_iff_eq.mpr c62
         have c62b1 : (t229 != 0) = false := bne_eq_false_iff_eq.mpr c62
         clear c62
         replace H := Option.bind_eq_some_iff.mp H
         obtain ⟨t241, A630, H⟩ := H
         replace H : (some t241) = some r := H
         have A63 := Aside0.mk A630
         clear A630
         obtain rfl := Option.some.inj H
         go_wp2_with (first | ((with_reducible refine gate_callee (f := 12) rfl ?_); refine goesL_ (some 85) rfl rfl Try.func12 (by kernel_rfl) rfl #[.slice A0 l0.length c0] rfl gl_ ?_; (with_reducible refine (standstillref08_Contents.calls kj14 _ _ l0 false _ ?side1 ?side2 A33.out).mono ?_); (case side1 => exact ck_ (Kd.C_below HR0.out HB.out)); (case side2 => exact HC0.out); rintro e w' ⟨rfl, ⟨nd, rfl⟩⟩; refine ⟨_, rfl, ?_⟩) | (go_at_call 7; (with_reducible refine (standstilllaw08_awake.calls kj14  t241 _ A63.out).mono ?_); rintro e w64 ⟨rfl, hb⟩; have n0_ := A_ (below_step (bk_ HB.out) hb); clear HB; have HB := n0_; clear n0_; (try clear hb); (try clear hb2); (try clear hk); (try clear hi)))
         go_ret
         exact ⟨er_, bk_ HB.out⟩
        ·rw [if_neg c62] at H
         exact absurd H (by simp)
       ·rw [if_neg c61] at H
        exact absurd H (by simp)

/-- THE ONE PURE STATEMENT of standstilllaw08_PairCodes: yours. -/
def standstilllaw08_PairCodes.Pure : Prop := ∀ (l0 : List Int) (a1 : Int) (a2 : Int), l0.length ≤ maxLen → l0.length * 8 ≤ 140737488351232 → (∀ x ∈ l0, (Lit.int .i64 x).wf = true) → (Lit.int .i64 a1).wf = true → (Lit.int .i64 a2).wf = true → ∃ k, standstilllaw08_PairCodes.f k l0 a1 a2 = some true
theorem standstilllaw08_PairCodes.walk (P : standstilllaw08_PairCodes.Pure) (a0 : Option Addr) (len0 cap0 : Nat) (z0 : List Int) (a1 : Int) (a2 : Int) (w : World) (w0 : (a0 = none ∧ len0 = 0 ∧ cap0 = 0 ∧ z0 = []) ∨ ∃ x, a0 = some x ∧ len0 ≤ cap0 ∧ cap0 ≤ maxLen ∧ z0.length = cap0 ∧ (∀ i, i < z0.length → w.cell? (x.add i) = some (.int .i64 (z0.getD i 0))) ∧ ∀ n ∈ z0, (Lit.int .i64 n).wf = true) (y0 : len0 * 8 ≤ 140737488351232) (w1 : (Lit.int .i64 a1).wf = true) (w2 : (Lit.int .i64 a2).wf = true) :
  Calls Try.prog 3 #[.slice a0 len0 cap0, .int .i64 a1, .int .i64 a2] w fun e w' => e = .returned (.bool true) ∧ Below w.heap.size w w' := by
 obtain ⟨l0, rfl, hr0, hm0, hw0, hc0⟩ := ReadsInt.ofRowC w0
 obtain ⟨k, h⟩ := P l0 a1 a2 hm0 y0 hw0 w1 w2
 refine (standstilllaw08_PairCodes.calls k _ _ l0 a1 a2 true w (Kd.C_of_reads (d := (0 : Int)) (h1 := fun _ => rfl) hr0) hc0 h).mono ?_
 rintro e w' ⟨rfl, hd⟩
 exact ⟨rfl, hd⟩

end Go.Proofs.Ytkbekdjoaibhbaa.PPairCodes
