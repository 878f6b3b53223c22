-- out of a turned copy of the print, by a program of this session; Lean checks it
import Derived.Test.YtkbekdjoaibhbaaPPairCodesx0
import Derived.Test.YtkbekdjoaibhbaaPPairCodesx9
namespace Go.Proofs.Ytkbekdjoaibhbaa.PPairCodes
open Go.RowKit Go.Proofs.YtkbekdjoaibhbaaW.PrintWords Go.Proofs.YtkbekdjoaibhbaaW.PrintLast Go.Proofs.YtkbekdjoaibhbaaW.PrintMore
attribute [local go_sem] max2_int min2_int max_two min_two max_three min_three max_four min_four   -- for this text's walks alone
set_option linter.unusedVariables false
set_option linter.unusedSimpArgs false

attribute [local go_sem] isSome_put_
/-! ### standstillref08_primes: function 25 -/
def standstillref08_primes.f  : Option (List Int) := some (([2, 3, 5, 7, 11, 13] : List Int))
set_option maxHeartbeats 8000000 in
set_option maxRecDepth 100000 in
theorem standstillref08_primes.calls  (r : List Int) (w : World) (h : standstillref08_primes.f  = some r) :
  Calls Try.prog 25 #[] w fun e w' => ∃ v0_ : Value, e = .returned (v0_) ∧ Kd.R (Kd.int .i64) 3 w' w.heap.size (fun _ => True) v0_ r ∧ Below w.heap.size w w' := by
 have HB := A_ (Below.refl w.heap.size w)
 have H : (some (([2, 3, 5, 7, 11, 13] : List Int))) = some r := h
 clear h
 obtain ⟨y205, hy205⟩ : ∃ y_ : List Int, y_ = (([2, 3, 5, 7, 11, 13] : List Int)) := ⟨_, rfl⟩
 replace H : (some y205) = some r := by first | (rw [hy205]; with_reducible exact H) | (have H2_ := (Option.bind_some _ _).symm.trans H; rw [hy205]; with_reducible exact H2_) | (have H2_ := (Option.bind_some _ _).symm.trans H; with_reducible exact H2_) | with_reducible exact H | (rw [hy205]; exact H) | exact H
 have Ny205 := Aside0.mk hy205
 clear hy205
 obtain rfl := Option.some.inj H
 go_enter Try.func25, Try.ntmps25
 go_wp2_with (first | ((with_reducible refine gate_dst (N := 1) rfl ?_); refine Kd.R_lit (Kd.int .i64) _ 3 ?hg (N := 1) ?hd (xs := ([2, 3, 5, 7, 11, 13] : List Int)) (inner := [.int .i64 2, .int .i64 3, .int .i64 5, .int .i64 7, .int .i64 11, .int .i64 13]) (ok := fun _ => True) (okp := fun _ => True) ?hr ?hp (fun _ hk => hk) trivial (Below.refl _ _) (Nat.le_refl _) (by simp) ?_; (case hd => rfl); (case hg => rfl); (case hr => first | (go_simp; done) | (go_simp; rfl)); (case hp => exact (Reps.one (show Kd.M (Kd.int .i64) _ _ _ 2 [.int .i64 2] from rfl) (Reps.one (show Kd.M (Kd.int .i64) _ _ _ 3 [.int .i64 3] from rfl) (Reps.one (show Kd.M (Kd.int .i64) _ _ _ 5 [.int .i64 5] from rfl) (Reps.one (show Kd.M (Kd.int .i64) _ _ _ 7 [.int .i64 7] from rfl) (Reps.one (show Kd.M (Kd.int .i64) _ _ _ 11 [.int .i64 11] from rfl) (Reps.one (show Kd.M (Kd.int .i64) _ _ _ 13 [.int .i64 13] from rfl) (Reps.none _ _)))))))); intro v206 w1 ho2 hb hg_ hnew_; clear hg_ hnew_; (first | rw [← Ny205.out] at ho2 | (simp only [Int.reduceToNat] at ho2; rw [← Ny205.out] at ho2)); have n0_ := A_ (Kd.R_lower ho2 (below_size (bk_ HB.out))); have n1_ := A_ (below_step (bk_ HB.out) hb); clear HB; have HO207 := n0_; have HB := n1_; clear n0_ n1_ hb ho2))
 go_ret
 exact ⟨_, er_, rk_ HO207.out, bk_ HB.out⟩

/-! ### standstillref08_Decode: function 10 -/
mutual
def standstillref08_Decode.l0 : Nat → Int → Int → List Int → Int → Option (List Int × Bool)
 | 0, _, _, _, _ => none
 | k + 1, x0, x1, x6, x7 => if x7 < x1 then (standstillref08_Decode.l1 k x0 x1 x6 x7) else (some (x6, (x0 == 1)))
def standstillref08_Decode.l1 : Nat → Int → Int → List Int → Int → Option (List Int × Bool)
 | 0, _, _, _, _ => none
 | k + 1, x0, x1, x6, x7 => (standstillref08_primes.f).bind fun t211 => (if 0 ≤ x7 then (if x7 < (t211.length : Int) then (if (rd t211 x7) = 0 then (none) else (if (Int.tmod x0 (rd t211 x7)) = 0 then (if x7 < (x6.length : Int) then ((standstillref08_primes.f).bind fun t217 => (if x7 < (t217.length : Int) then (if (rd t217 x7) = 0 then (none) else (standstillref08_Decode.l1 k (wrap64 (Int.tdiv x0 (rd t217 x7))) x1 (x6.set (x7 : Int).toNat (wrap64 ((rd x6 x7) + 1))) x7)) else (none))) else (none)) else (standstillref08_Decode.l0 k x0 x1 x6 (wrap64 (x7 + 1))))) else (none)) else (none))
end
def standstillref08_Decode.f (k : Nat) (a0 : Int) (a1 : Int) : Option (List Int × Bool) := if 0 ≤ a1 then (if (a1 : Int).toNat ≤ 35184372088832 then (standstillref08_Decode.l0 k a0 a1 (List.replicate (a1 : Int).toNat 0) 0) else (none)) else (none)
theorem standstillref08_Decode.mono_l : ∀ k, (∀ y0 y1 y2 y3, LeO (standstillref08_Decode.l0 k y0 y1 y2 y3) (standstillref08_Decode.l0 (k + 1) y0 y1 y2 y3)) ∧ (∀ y0 y1 y2 y3, LeO (standstillref08_Decode.l1 k y0 y1 y2 y3) (standstillref08_Decode.l1 (k + 1) y0 y1 y2 y3))
 | 0 => ⟨fun _ _ _ _ r h => by simp [standstillref08_Decode.l0] at h, fun _ _ _ _ r h => by simp [standstillref08_Decode.l1] at h⟩
 | k + 1 => by
  obtain ⟨ih0, ih1⟩ := standstillref08_Decode.mono_l k
  refine ⟨?_, ?_⟩
  ·intro y0 y1 y2 y3
   unfold standstillref08_Decode.l0
   repeat' first
   | (with_reducible exact ih0 _ _ _ _)
   | (with_reducible exact ih1 _ _ _ _)
   | (with_reducible exact LeO.refl _)
   | (with_reducible exact LeO.none _)
   | (with_reducible refine LeO.ite ?_ ?_)
   | (with_reducible refine LeO.bind ?_ (fun _ => ?_))
   | exact ih0 _ _ _ _
   | exact ih1 _ _ _ _
   | exact LeO.none _
   | refine LeO.ite ?_ ?_
   | refine LeO.bind ?_ (fun _ => ?_)
  ·intro y0 y1 y2 y3
   unfold standstillref08_Decode.l1
   repeat' first
   | (with_reducible exact ih0 _ _ _ _)
   | (with_reducible exact ih1 _ _ _ _)
   | (with_reducible exact LeO.refl _)
   | (with_reducible exact LeO.none _)
   | (with_reducible refine LeO.ite ?_ ?_)
   | (with_reducible refine LeO.bind ?_ (fun _ => ?_))
   | exact ih0 _ _ _ _
   | exact ih1 _ _ _ _
   | exact LeO.none _
   | refine LeO.ite ?_ ?_
   | refine LeO.bind ?_ (fun _ => ?_)
theorem standstillref08_Decode.mono : ∀ a0 a1 k, LeO (standstillref08_Decode.f k a0 a1) (standstillref08_Decode.f (k + 1) a0 a1) := by
 intro a0 a1 k
 obtain ⟨ih0, ih1⟩ := standstillref08_Decode.mono_l k
 unfold standstillref08_Decode.f
 repeat' first
   | (with_reducible exact ih0 _ _ _ _)
   | (with_reducible exact ih1 _ _ _ _)
   | (with_reducible exact LeO.refl _)
   | (with_reducible exact LeO.none _)
   | (with_reducible refine LeO.ite ?_ ?_)
   | (with_reducible refine LeO.bind ?_ (fun _ => ?_))
   | exact ih0 _ _ _ _
   | exact ih1 _ _ _ _
   | exact LeO.none _
   | refine LeO.ite ?_ ?_
   | refine LeO.bind ?_ (fun _ => ?_)
set_option maxHeartbeats 8000000 in
set_option maxRecDepth 100000 in
theorem standstillref08_Decode.calls (k : Nat) (a0 : Int) (a1 : Int) (r1 : List Int) (r2 : Bool) (w : World) (h : standstillref08_Decode.f k a0 a1 = some (r1, r2)) :
  Calls Try.prog 10 #[.int .i64 a0, .int .i64 a1] w fun e w' => ∃ v0_ : Value, e = .returned (.tuple #[v0_, .bool r2]) ∧ Kd.R (Kd.int .i64) 3 w' w.heap.size (fun _ => True) v0_ r1 ∧ Below w.heap.size w w' := by
 have HB := A_ (Below.refl w.heap.size w)
 have H : (if 0 ≤ a1 then (if (a1 : Int).toNat ≤ 35184372088832 then (standstillref08_Decode.l0 k a0 a1 (List.replicate (a1 : Int).toNat 0) 0) else (none)) else (none)) = some (r1, r2) := h
 clear h
 by_cases c3 : 0 ≤ a1
 ·rw [if_pos c3] at H
  have c3b0 := eq_true c3
  have c3b1 : decide (0 ≤ a1) = true := decide_eq_true c3
  clear c3
  by_cases c4 : (a1 : Int).toNat ≤ 35184372088832
  ·rw [if_pos c4] at H
   have c4b0 := eq_true c4
   have c4b1 : decide ((a1 : Int).toNat ≤ 35184372088832) = true := decide_eq_true c4
   clear c4
   obtain ⟨y208, hy208⟩ : ∃ y_ : List Int, y_ = (List.replicate (a1 : Int).toNat 0) := ⟨_, rfl⟩
   replace H : (standstillref08_Decode.l0 k a0 a1 y208 0) = some (r1, r2) := by first | (rw [hy208]; with_reducible exact H) | (have H2_ := (Option.bind_some _ _).symm.trans H; rw [hy208]; with_reducible exact H2_) | (have H2_ := (Option.bind_some _ _).symm.trans H; with_reducible exact H2_) | with_reducible exact H | (rw [hy208]; exact H) | exact H
   have Ny208 := Aside0.mk hy208
   clear hy208
   have H' := Aside0.mk H
   clear H
   go_enter Try.func10, Try.ntmps10
   go_wp2_with (first | ((with_reducible refine gate_dst (N := 9) rfl ?_); refine Kd.R_make (Kd.int .i64) _ 3 rfl (N := 9) rfl 22 _ _ rfl a1 rfl rfl Try.underlying22 (.int .i64 0) 8 info3 rfl (by decide) (by omega) 0 (ok := fun _ => True) (okp := fun _ => True) rfl (fun _ hk => hk) trivial (od_) (Nat.le_trans (Nat.mul_le_mul_right _ (od_ : a1.toNat ≤ 35184372088832)) (by omega)) (Below.refl _ _) (Nat.le_refl _) ?_; intro v209 w5 ho6 hb hg_ hnew_; clear hg_ hnew_; (first | rw [← Ny208.out] at ho6 | (simp only [Int.reduceToNat] at ho6; rw [← Ny208.out] at ho6)); have n0_ := A_ (Kd.R_lower ho6 (below_size (bk_ HB.out))); have n1_ := A_ (below_step (bk_ HB.out) hb); clear HB; have HO210 := n0_; have HB := n1_; clear n0_ n1_ hb ho6))
   go_loopg [0, 7] k (fun kq v0 v7 w' => ∃ (x0_1 : Int) (x6_1 : List Int) (x7_1 : Int), v0 = .int .i64 x0_1 ∧ v7 = .int .i64 x7_1 ∧ Aside0 (standstillref08_Decode.l0 kq x0_1 a1 x6_1 x7_1 = some (r1, r2)) ∧ Aside0 (kq ≤ k) ∧ Aside0 (Kd.R (Kd.int .i64) 3 w' w.heap.size (fun _ => True) v209 x6_1) ∧ Aside0 (Below w.heap.size w w'))
   case atStart => exact ⟨(a0), (y208), (0), jr_, jr_, H', ⟨Nat.le_refl _⟩, ⟨rk_ HO210.out⟩, ⟨bk_ HB.out⟩⟩
   case round =>
    clear H'
    (try clear c3); (try clear c3b0); (try clear c3b1); (try clear c4); (try clear c4b0); (try clear c4b1)
    obtain ⟨x0_1, x6_1, x7_1, rfl, rfl, HA, HK1, HO_6, HB⟩ := hrel
    cases gk with
    | zero => exact absurd HA.out (by simp [standstillref08_Decode.l0])
    | succ k1 =>
     have H := HA.out
     clear HA
     simp only [standstillref08_Decode.l0] at H
     by_cases c7 : x7_1 < a1
     ·rw [if_pos c7] at H
      have c7b0 : decide (x7_1 < a1) = true := decide_eq_true c7
      clear c7
      have H' := Aside0.mk H
      clear H
      go_wp2
      go_loopg [0] k1 (fun kq v0 w' => ∃ (x0_2 : Int) (x6_2 : List Int), v0 = .int .i64 x0_2 ∧ Aside0 (standstillref08_Decode.l1 kq x0_2 a1 x6_2 x7_1 = some (r1, r2)) ∧ Aside0 (kq ≤ k1) ∧ Aside0 (Kd.R (Kd.int .i64) 3 w' w.heap.size (fun _ => True) v209 x6_2) ∧ Aside0 (Below w.heap.size w w'))
      case atStart => exact ⟨(x0_1), (x6_1), jr_, H', ⟨Nat.le_refl _⟩, ⟨rk_ HO_6.out⟩, ⟨bk_ HB.out⟩⟩
      case round =>
       clear H'
       (try clear c3); (try clear c3b0); (try clear c3b1); (try clear c4); (try clear c4b0); (try clear c4b1); (try clear c7); (try clear c7b0)
       obtain ⟨x0_2, x6_2, rfl, HA, HK2, HO_6, HB⟩ := hrel
       cases gk with
       | zero => exact absurd HA.out (by simp [standstillref08_Decode.l1])
       | succ k2 =>
        have H := HA.out
        clear HA
        simp only [standstillref08_Decode.l1] at H
        replace H := Option.bind_eq_some_iff.mp H
        obtain ⟨t211, A80, H⟩ := H
        replace H : (if 0 ≤ x7_1 then (if x7_1 < (t211.length : Int) then (if (rd t211 x7_1) = 0 then (none) else (if (Int.tmod x0_2 (rd t211 x7_1)) = 0 then (if x7_1 < (x6_2.length : Int) then ((standstillref08_primes.f).bind fun t217 => (if x7_1 < (t217.length : Int) then (if (rd t217 x7_1) = 0 then (none) else (standstillref08_Decode.l1 k2 (wrap64 (Int.tdiv x0_2 (rd t217 x7_1))) a1 (x6_2.set (x7_1 : Int).toNat (wrap64 ((rd x6_2 x7_1) + 1))) x7_1)) else (none))) else (none)) else (standstillref08_Decode.l0 k2 x0_2 a1 x6_2 (wrap64 (x7_1 + 1))))) else (none)) else (none)) = some (r1, r2) := H
        have A8 := Aside0.mk A80
        clear A80
        by_cases c9 : 0 ≤ x7_1
        ·rw [if_pos c9] at H
         have c9b0 : decide (0 ≤ x7_1) = true := decide_eq_true c9
         clear c9
         by_cases c10 : x7_1 < (t211.length : Int)
         ·rw [if_pos c10] at H
          have c10b0 : decide (x7_1 < (t211.length : Int)) = true := decide_eq_true c10
          clear c10
          by_cases c11 : (rd t211 x7_1) = 0
          ·rw [if_pos c11] at H
           exact absurd H (by simp)
          ·rw [if_neg c11] at H
           have c11b0 : ((rd t211 x7_1) == 0) = false := beq_eq_false_iff_ne.mpr c11
           have c11b1 : ((rd t211 x7_1) != 0) = true := bne_iff_ne.mpr c11
           by_cases c12 : (Int.tmod x0_2 (rd t211 x7_1)) = 0
           ·rw [if_pos c12] at H
            have c12b0 : ((Int.tmod x0_2 (rd t211 x7_1)) == 0) = true := beq_iff_eq.mpr c12
            have c12b1 : ((Int.tmod x0_2 (rd t211 x7_1)) != 0) = false := bne_eq_false_iff_eq.mpr c12
            clear c12
            by_cases c13 : x7_1 < (x6_2.length : Int)
            ·rw [if_pos c13] at H
             have c13b0 : decide (x7_1 < (x6_2.length : Int)) = true := decide_eq_true c13
             clear c13
             obtain ⟨y216, hy216⟩ : ∃ y_ : List Int, y_ = (x6_2.set (x7_1 : Int).toNat (wrap64 ((rd x6_2 x7_1) + 1))) := ⟨_, rfl⟩
             replace H : ((standstillref08_primes.f).bind fun t217 => (if x7_1 < (t217.length : Int) then (if (rd t217 x7_1) = 0 then (none) else (standstillref08_Decode.l1 k2 (wrap64 (Int.tdiv x0_2 (rd t217 x7_1))) a1 y216 x7_1)) else (none))) = some (r1, r2) := by first | (rw [hy216]; with_reducible exact H) | (have H2_ := (Option.bind_some _ _).symm.trans H; rw [hy216]; with_reducible exact H2_) | (have H2_ := (Option.bind_some _ _).symm.trans H; with_reducible exact H2_) | with_reducible exact H | (rw [hy216]; exact H) | exact H
             have Ny216 := Aside0.mk hy216
             clear hy216
             replace H := Option.bind_eq_some_iff.mp H
             obtain ⟨t217, A150, H⟩ := H
             replace H : (if x7_1 < (t217.length : Int) then (if (rd t217 x7_1) = 0 then (none) else (standstillref08_Decode.l1 k2 (wrap64 (Int.tdiv x0_2 (rd t217 x7_1))) a1 y216 x7_1)) else (none)) = some (r1, r2) := H
             have A15 := Aside0.mk A150
             clear A150
             by_cases c16 : x7_1 < (t217.length : Int)
             ·rw [if_pos c16] at H
              have c16b0 : decide (x7_1 < (t217.length : Int)) = true := decide_eq_true c16
              clear c16
              by_cases c17 : (rd t217 x7_1) = 0
              ·rw [if_pos c17] at H
               exact absurd H (by simp)
              ·rw [if_neg c17] at H
               have c17b0 : ((rd t217 x7_1) == 0) = false := beq_eq_false_iff_ne.mpr c17
               have c17b1 : ((rd t217 x7_1) != 0) = true := bne_iff_ne.mpr c17
               have H' := Aside0.mk H
               clear H
               go_wp2_with (first | ((with_reducible refine gate_callee (f := 25) rfl ?_); refine goesL_ (some 16) rfl rfl Try.func25 (by kernel_rfl) rfl #[] rfl gl_ ?_; (with_reducible refine (standstillref08_primes.calls  t211 _ A8.out).mono ?_); rintro e w18 ⟨v212, rfl, ho0, hb⟩; refine ⟨_, rfl, ?_⟩; have n0_ := A_ (Kd.R_elder' (rk_ HO_6.out) (Kd.R_base ho0) hb); have n1_ := A_ (Kd.R_lower (Kd.R_new' ho0 (Kd.R_lt (rk_ HO_6.out))) (below_size (bk_ HB.out))); have n2_ := A_ (below_step (bk_ HB.out) hb); clear HO_6 HB; have HO_6 := n0_; have HO213 := n1_; have HB := n2_; clear n0_ n1_ n2_; (try clear hb); (try clear hb2); (try clear hk); (try clear hi); (try clear ho0); obtain ⟨Ao19, co19, eo19⟩ := Kd.R_slice HO213.out; subst eo19; have p214 : 0 ≤ (x7_1 : Int) := od_; have q214 : x7_1 < (t211.length : Int) := od_; obtain ⟨ad214, e214, hx214_0⟩ := Kd.at_int (Kd.R_reads' HO213.out).2.2 x7_1 p214 q214; cases e214; replace p214 := eq_true p214; replace q214 := eq_true q214; obtain ⟨Ao20, co20, eo20⟩ := Kd.R_slice HO_6.out; subst eo20; have p215 : 0 ≤ (x7_1 : Int) := od_; have q215 : x7_1 < (x6_2.length : Int) := od_; obtain ⟨ad215, e215, hx215_0⟩ := Kd.at_int (Kd.R_reads' HO_6.out).2.2 x7_1 p215 q215; cases e215; replace p215 := eq_true p215; replace q215 := eq_true q215; have p14 : 0 ≤ (x7_1 : Int) := od_; have q14 : (x7_1 : Int) < ((x6_2.length : Int) : Int) := od_; obtain ⟨go14, co14, eo14, gb14, gl14, cl14, HG14⟩ := Kd.R_form HO_6.out (by omega); (first | cases eo14 | (injection eo14 with ea_ en_ ec_; (first | subst ea_ | (injection ea_ with ea_; subst ea_)); subst ec_; clear en_)); have GB14 := Aside0.mk gb14; have GG14 := Aside0.mk HG14; clear gb14 gl14 HG14; (first | simp only [add_plain] at hx215_0 | skip); obtain ⟨hx14_0, hf14_0⟩ := Kd.R_celln 0 HO_6.out (x7_1 : Int) p14 q14; replace p14 := eq_true p14; replace q14 := eq_true q14; have n_ := A_ (Kd.R_mono (ok' := (fun k_ => some k_ ≠ (.slice (some ad214) t211.length co19 : Value).ownBlock)) HO_6.out (fun k_ hk => hk.2)); clear HO_6; have HO_6 := n_; clear n_; obtain ⟨hy21_, hz21_⟩ := Kd.R_celln 0 HO_6.out (x7_1 : Int) (od_) (od_); have HP21 := Kd.R_putg HO_6.out (x7_1 : Int) (wrap64 ((rd x6_2 x7_1) + 1))) | ((with_reducible refine gate_store (t := 3) (p := 27) rfl ?_); refine store_event (t := 3) (p := 27) (v := ?vo_w22) (w1 := (w18.setCell ⟨go14, (x7_1 : Int).toNat, none⟩ (.int .i64 (wrap64 ((rd x6_2 x7_1) + 1))))) ?hg ?ho ?hn ?hr ?_; (case ho => rfl); (case hg => rfl); (case hn => rfl); (case hr => first | (go_simp; done) | (go_simp; rfl)); intro w22 hw; have hg : w18.grownBy w22 (some go14) := (by rw [hw]; exact HP21.2); have hp_ : Kd.R (Kd.int .i64) 3 w22 w.heap.size (fun k_ => some k_ ≠ (.slice (some ad214) t211.length co19 : Value).ownBlock) (.slice (some ⟨go14, 0, none⟩) x6_2.length co20) y216 := (by rw [hw, Ny216.out]; exact HP21.1); clear HP21; have n0_ := A_ (hp_); have n1_ := A_ (Kd.R_after (v := (.slice (some ⟨go14, 0, none⟩) x6_2.length co20)) (v1 := (.slice (some ⟨go14, 0, none⟩) x6_2.length co20)) (ok := (fun _ => True)) (rk_ HO213.out) hg (.inl rfl)); have n2_ := A_ ((by rw [hw]; exact below_set (HB.out) GB14.out : Below w.heap.size w w22)); clear HO_6 HO213 HB; have HO_6 := n0_; have HO213 := n1_; have HB := n2_; clear n0_ n1_ n2_ hg hw hp_) | ((with_reducible refine gate_callee (f := 25) rfl ?_); refine goesL_ (some 29) rfl rfl Try.func25 (by kernel_rfl) rfl #[] rfl gl_ ?_; (with_reducible refine (standstillref08_primes.calls  t217 _ A15.out).mono ?_); rintro e w23 ⟨v218, rfl, ho0, hb⟩; refine ⟨_, rfl, ?_⟩; have n0_ := A_ (Kd.R_elder' (rk_ HO_6.out) (Kd.R_base ho0) hb); have n1_ := A_ (Kd.R_elder' (rk_ HO213.out) (Kd.R_base ho0) hb); have n2_ := A_ (Kd.R_lower (Kd.R_new' (Kd.R_new' ho0 (Kd.R_lt (rk_ HO_6.out))) (Kd.R_lt (rk_ HO213.out))) (below_size (bk_ HB.out))); have n3_ := A_ (below_step (bk_ HB.out) hb); clear HO_6 HO213 HB; have HO_6 := n0_; have HO213 := n1_; have HO219 := n2_; have HB := n3_; clear n0_ n1_ n2_ n3_; (try clear hb); (try clear hb2); (try clear hk); (try clear hi); (try clear ho0); obtain ⟨Ao24, co24, eo24⟩ := Kd.R_slice HO219.out; subst eo24; have p220 : 0 ≤ (x7_1 : Int) := od_; have q220 : x7_1 < (t217.length : Int) := od_; obtain ⟨ad220, e220, hx220_0⟩ := Kd.at_int (Kd.R_reads' HO219.out).2.2 x7_1 p220 q220; cases e220; replace p220 := eq_true p220; replace q220 := eq_true q220))
               go_roundg k2
               case measure => have := HK1.out; have := HK2.out; omega
               case rel => exact ⟨(wrap64 (Int.tdiv x0_2 (rd t217 x7_1))), (y216), jr_, H', ⟨by have := HK1.out; have := HK2.out; omega⟩, ⟨by (with_reducible repeat (first | apply Kd.R_alloc | apply Kd.R_drewN | apply Kd.R_drew)); exact Kd.R_mono HO_6.out (fun _ hk => trivial)⟩, ⟨bk_ HB.out⟩⟩
             ·rw [if_neg c16] at H
              exact absurd H (by simp)
            ·rw [if_neg c13] at H
             exact absurd H (by simp)
           ·rw [if_neg c12] at H
            have c12b0 : ((Int.tmod x0_2 (rd t211 x7_1)) == 0) = false := beq_eq_false_iff_ne.mpr c12
            have c12b1 : ((Int.tmod x0_2 (rd t211 x7_1)) != 0) = true := bne_iff_ne.mpr c12
            have H' := Aside0.mk H
            clear H
            go_wp2_with (first | ((with_reducible refine gate_callee (f := 25) rfl ?_); refine goesL_ (some 16) rfl rfl Try.func25 (by kernel_rfl) rfl #[] rfl gl_ ?_; (with_reducible refine (standstillref08_primes.calls  t211 _ A8.out).mono ?_); rintro e w25 ⟨v212, rfl, ho0, hb⟩; refine ⟨_, rfl, ?_⟩; have n0_ := A_ (Kd.R_elder' (rk_ HO_6.out) (Kd.R_base ho0) hb); have n1_ := A_ (Kd.R_lower (Kd.R_new' ho0 (Kd.R_lt (rk_ HO_6.out))) (below_size (bk_ HB.out))); have n2_ := A_ (below_step (bk_ HB.out) hb); clear HO_6 HB; have HO_6 := n0_; have HO213 := n1_; have HB := n2_; clear n0_ n1_ n2_; (try clear hb); (try clear hb2); (try clear hk); (try clear hi); (try clear ho0); obtain ⟨Ao26, co26, eo26⟩ := Kd.R_slice HO213.out; subst eo26; have p214 : 0 ≤ (x7_1 : Int) := od_; have q214 : x7_1 < (t211.length : Int) := od_; obtain ⟨ad214, e214, hx214_0⟩ := Kd.at_int (Kd.R_reads' HO213.out).2.2 x7_1 p214 q214; cases e214; replace p214 := eq_true p214; replace q214 := eq_true q214))
            go_roundg k2
            case measure => have := HK1.out; have := HK2.out; omega
            case rel => exact ⟨(x0_2), (x6_2), (wrap64 (x7_1 + 1)), jr_, jr_, H', ⟨by have := HK1.out; have := HK2.out; omega⟩, ⟨by (with_reducible repeat (first | apply Kd.R_alloc | apply Kd.R_drewN | apply Kd.R_drew)); exact Kd.R_mono HO_6.out (fun _ hk => trivial)⟩, ⟨bk_ HB.out⟩⟩
         ·rw [if_neg c10] at H
          exact absurd H (by simp)
        ·rw [if_neg c9] at H
         exact absurd H (by simp)
     ·rw [if_neg c7] at H
      have c7b0 : decide (x7_1 < a1) = false := decide_eq_false c7
      clear c7
      simp only [Option.some.injEq, Prod.mk.injEq] at H
      obtain ⟨rfl, rfl⟩ := H
      go_wp2
      go_ret2
      exact ⟨_, er_, rk_ HO_6.out, bk_ HB.out⟩
  ·rw [if_neg c4] at H
   exact absurd H (by simp)
 ·rw [if_neg c3] at H
  exact absurd H (by simp)

/-! ### standstilllaw08_same: function 11 -/
def standstilllaw08_same.f (k : Nat) (l0 : List Int) (l1 : List Int) : Option (Bool) := (standstillref06_SameCount.f k 0 l0 0 l1).bind fun t221 => (some t221)
theorem standstilllaw08_same.mono : ∀ a0 a1 k, LeO (standstilllaw08_same.f k a0 a1) (standstilllaw08_same.f (k + 1) a0 a1) := by
 intro a0 a1 k
 unfold standstilllaw08_same.f
 repeat' first
   | (with_reducible exact standstillref06_SameCount.mono _ _ _ _ _)
   | (with_reducible exact LeO.refl _)
   | (with_reducible exact LeO.none _)
   | (with_reducible refine LeO.ite ?_ ?_)
   | (with_reducible refine LeO.bind ?_ (fun _ => ?_))
   | exact standstillref06_SameCount.mono _ _ _ _ _
   | exact LeO.none _
   | refine LeO.ite ?_ ?_
   | refine LeO.bind ?_ (fun _ => ?_)
set_option maxHeartbeats 8000000 in
set_option maxRecDepth 100000 in
theorem standstilllaw08_same.calls (k : Nat) (A0 : Option Addr) (c0 : Nat) (l0 : List Int) (A1 : Option Addr) (c1 : Nat) (l1 : List Int) (r : Bool) (w : World) (hr0 : Kd.C (Kd.int .i64) w A0 l0.length l0) (hc0 : l0.length ≤ c0) (hr1 : Kd.C (Kd.int .i64) w A1 l1.length l1) (hc1 : l1.length ≤ c1) (h : standstilllaw08_same.f k l0 l1 = some r) :
  Calls Try.prog 11 #[.slice A0 l0.length c0, .slice A1 l1.length c1] w fun e w' => e = .returned (.bool r) ∧ Below w.heap.size w w' := by
 have hu47 := Try.underlying47
 have HR0 := Aside0.mk hr0
 have HC0 := Aside0.mk hc0
 clear hr0 hc0
 have HR1 := Aside0.mk hr1
 have HC1 := Aside0.mk hc1
 clear hr1 hc1
 have HB := A_ (Below.refl w.heap.size w)
 have H : ((standstillref06_SameCount.f k 0 l0 0 l1).bind fun t221 => (some t221)) = some r := h
 clear h
 replace H := Option.bind_eq_some_iff.mp H
 obtain ⟨t221, A30, H⟩ := H
 replace H : (some t221) = some r := H
 have A3 := Aside0.mk A30
 clear A30
 obtain rfl := Option.some.inj H
 go_enter Try.func11, Try.ntmps11
 go_wp2_with (first | ((with_reducible refine gate_callee (f := 22) rfl ?_); refine goesL_ (some 9) rfl rfl Try.func22 (by kernel_rfl) rfl #[.agg #[.int .i64 0, .slice A0 l0.length c0], .agg #[.int .i64 0, .slice A1 l1.length c1]] rfl gl_ ?_; (with_reducible refine (standstillref06_SameCount.calls k 0 _ _ l0 0 _ _ l1 t221 _ ?side1 ?side2 ?side3 ?side4 A3.out).mono ?_); (case side1 => repeat (first | exact HR0.out | (with_reducible refine Kd.C_alloc ?_ _) | (with_reducible refine Kd.C_drewN ?_ _) | (with_reducible refine Kd.C_drew ?_))); (case side2 => exact HC0.out); (case side3 => repeat (first | exact HR1.out | (with_reducible refine Kd.C_alloc ?_ _) | (with_reducible refine Kd.C_drewN ?_ _) | (with_reducible refine Kd.C_drew ?_))); (case side4 => exact HC1.out); rintro e w4 ⟨rfl, hb⟩; refine ⟨_, rfl, ?_⟩; have n0_ := A_ (below_step (bk_ HB.out) hb); clear HB; have HB := n0_; clear n0_; (try clear hb); (try clear hb2); (try clear hk); (try clear hi)))
 go_ret
 exact ⟨er_, bk_ HB.out⟩

/-! ### standstillref08_Contents: function 12 -/
def standstillref08_Contents.l0 : Nat → List Int → Int → Option (Bool)
 | 0, _, _ => none
 | k + 1, x0, x3 => if x3 < (x0.length : Int) then (if 0 ≤ x3 then (if (rd x0 x3) < 0 then (some false) else (standstillref08_Contents.l0 k x0 (wrap64 (x3 + 1)))) else (none)) else (if (x0.length : Int) ≥ 1 then (some (decide ((x0.length : Int) ≤ 6))) else (some false))
def standstillref08_Contents.f (k : Nat) (l0 : List Int) : Option (Bool) := standstillref08_Contents.l0 k l0 0
theorem standstillref08_Contents.mono_l : ∀ k, (∀ y0 y1, LeO (standstillref08_Contents.l0 k y0 y1) (standstillref08_Contents.l0 (k + 1) y0 y1))
 | 0 => fun _ _ r h => by simp [standstillref08_Contents.l0] at h
 | k + 1 => by
  have ih0 := standstillref08_Contents.mono_l k
  ·intro y0 y1
   unfold standstillref08_Contents.l0
   repeat' first
   | (with_reducible exact ih0 _ _)
   | (with_reducible exact LeO.refl _)
   | (with_reducible exact LeO.none _)
   | (with_reducible refine LeO.ite ?_ ?_)
   | (with_reducible refine LeO.bind ?_ (fun _ => ?_))
   | exact ih0 _ _
   | exact LeO.none _
   | refine LeO.ite ?_ ?_
   | refine LeO.bind ?_ (fun _ => ?_)
theorem standstillref08_Contents.mono : ∀ a0 k, LeO (standstillref08_Contents.f k a0) (standstillref08_Contents.f (k + 1) a0) := by
 intro a0 k
 have ih0 := standstillref08_Contents.mono_l k
 unfold standstillref08_Contents.f
 repeat' first
   | (with_reducible exact ih0 _ _)
   | (with_reducible exact LeO.refl _)
   | (with_reducible exact LeO.none _)
   | (with_reducible refine LeO.ite ?_ ?_)
   | (with_reducible refine LeO.bind ?_ (fun _ => ?_))
   | exact ih0 _ _
   | exact LeO.none _
   | refine LeO.ite ?_ ?_
   | refine LeO.bind ?_ (fun _ => ?_)
set_option maxHeartbeats 8000000 in
set_option maxRecDepth 100000 in
theorem standstillref08_Contents.calls (k : Nat) (A0 : Option Addr) (c0 : Nat) (l0 : List Int) (r : Bool) (w : World) (hr0 : Kd.C (Kd.int .i64) w A0 l0.length l0) (hc0 : l0.length ≤ c0) (h : standstillref08_Contents.f k l0 = some r) :
  Calls Try.prog 12 #[.slice A0 l0.length c0] w fun e w' => e = .returned (.bool r) ∧ Drawn0 w w' := by
 have HR0 := Aside0.mk hr0
 have HC0 := Aside0.mk hc0
 clear hr0 hc0
 have H : (standstillref08_Contents.l0 k l0 0) = some r := h
 clear h
 have H' := Aside0.mk H
 clear H
 go_enter Try.func12, Try.ntmps12
 go_wp2
 go_loopg [3] k (fun kq v3 w' => ∃ (x3_1 : Int), v3 = .int .i64 x3_1 ∧ Aside0 (standstillref08_Contents.l0 kq l0 x3_1 = some r) ∧ Aside0 (kq ≤ k) ∧ Drawn0 w w')
 case atStart => exact ⟨(0), jr_, H', ⟨Nat.le_refl _⟩, by repeat (first | exact Drawn0.refl _ | apply Drawn0.step)⟩
 case round =>
  clear H'
  obtain ⟨x3_1, rfl, HA, HK1, ⟨m1, rfl⟩⟩ := hrel
  cases gk with
  | zero => exact absurd HA.out (by simp [standstillref08_Contents.l0])
  | succ k1 =>
   have H := HA.out
   clear HA
   simp only [standstillref08_Contents.l0] at H
   by_cases c2 : x3_1 < (l0.length : Int)
   ·rw [if_pos c2] at H
    have c2b0 : decide (x3_1 < (l0.length : Int)) = true := decide_eq_true c2
    clear c2
    by_cases c3 : 0 ≤ x3_1
    ·rw [if_pos c3] at H
     have c3b0 : decide (0 ≤ x3_1) = true := decide_eq_true c3
     clear c3
     by_cases c4 : (rd l0 x3_1) < 0
     ·rw [if_pos c4] at H
      have c4b0 : decide ((rd l0 x3_1) < 0) = true := decide_eq_true c4
      clear c4
      obtain rfl := Option.some.inj H
      have p222 : 0 ≤ (x3_1 : Int) := od_
      have q222 : x3_1 < (l0.length : Int) := od_
      obtain ⟨ad222, e222, hx222_0⟩ := Kd.at_int HR0.out x3_1 p222 q222
      cases e222
      replace p222 := eq_true p222
      replace q222 := eq_true q222
      go_wp2
      go_ret
      exact ⟨by first | rfl | (simp; done) | (simp [*]; done), by repeat (first | exact Drawn0.refl _ | apply Drawn0.step)⟩
     ·rw [if_neg c4] at H
      have c4b0 : decide ((rd l0 x3_1) < 0) = false := decide_eq_false c4
      clear c4
      have H' := Aside0.mk H
      clear H
      have p222 : 0 ≤ (x3_1 : Int) := od_
      have q222 : x3_1 < (l0.length : Int) := od_
      obtain ⟨ad222, e222, hx222_0⟩ := Kd.at_int HR0.out x3_1 p222 q222
      cases e222
      replace p222 := eq_true p222
      replace q222 := eq_true q222
      go_wp2
      go_roundg k1
      case measure => have := HK1.out; omega
      case rel => exact ⟨(wrap64 (x3_1 + 1)), jr_, H', ⟨by have := HK1.out; omega⟩, by repeat (first | exact Drawn0.refl _ | apply Drawn0.step)⟩
    ·rw [if_neg c3] at H
     exact absurd H (by simp)
   ·rw [if_neg c2] at H
    have c2b0 : decide (x3_1 < (l0.length : Int)) = false := decide_eq_false c2
    clear c2
    by_cases c5 : (l0.length : Int) ≥ 1
    ·rw [if_pos c5] at H
     have c5b0 : decide (1 ≤ (l0.length : Int)) = true := decide_eq_true c5
     have c5b1 : decide (1 ≤ l0.length) = true := decide_eq_true (by omega)
     clear c5
     obtain rfl := Option.some.inj H
     go_wp2
     go_ret
     exact ⟨by first | rfl | (simp; done) | (simp [*]; done), by repeat (first | exact Drawn0.refl _ | apply Drawn0.step)⟩
    ·rw [if_neg c5] at H
     have c5b0 : decide (1 ≤ (l0.length : Int)) = false := decide_eq_false c5
     have c5b1 : decide (1 ≤ l0.length) = false := decide_eq_false (by omega)
     clear c5
     obtain rfl := Option.some.inj H
     go_wp2
     go_ret
     exact ⟨by first | rfl | (simp; done) | (simp [*]; done), by repeat (first | exact Drawn0.refl _ | apply Drawn0.step)⟩

/-! ### standstillref08_Encode: function 13 -/
mutual
def standstillref08_Encode.l0 : Nat → List Int → Int → Int → Option (Int × Bool)
 | 0, _, _, _ => none
 | k + 1, x0, x4, x5 => if x5 < (x0.length : Int) then ((standstillref08_primes.f).bind fun t223 => (if 0 ≤ x5 then (if x5 < (t223.length : Int) then (standstillref08_Encode.l1 k x0 x4 x5 (rd t223 x5) 0) else (none)) else (none))) else (some (x4, true))
def standstillref08_Encode.l1 : Nat → List Int → Int → Int → Int → Int → Option (Int × Bool)
 | 0, _, _, _, _, _ => none
 | k + 1, x0, x4, x5, x6, x7 => if 0 ≤ x5 then (if x5 < (x0.length : Int) then (if x7 < (rd x0 x5) then (if x6 = 0 then (none) else (if x4 > (wrap64 (Int.tdiv (1152921504606846976 : Int) x6)) then (some (0, false)) else (standstillref08_Encode.l1 k x0 (wrap64 (x4 * x6)) x5 x6 (wrap64 (x7 + 1))))) else (standstillref08_Encode.l0 k x0 x4 (wrap64 (x5 + 1)))) else (none)) else (none)
end
def standstillref08_Encode.f (k : Nat) (l0 : List Int) : Option (Int × Bool) := standstillref08_Encode.l0 k l0 1 0
theorem standstillref08_Encode.mono_l : ∀ k, (∀ y0 y1 y2, LeO (standstillref08_Encode.l0 k y0 y1 y2) (standstillref08_Encode.l0 (k + 1) y0 y1 y2)) ∧ (∀ y0 y1 y2 y3 y4, LeO (standstillref08_Encode.l1 k y0 y1 y2 y3 y4) (standstillref08_Encode.l1 (k + 1) y0 y1 y2 y3 y4))
 | 0 => ⟨fun _ _ _ r h => by simp [standstillref08_Encode.l0] at h, fun _ _ _ _ _ r h => by simp [standstillref08_Encode.l1] at h⟩
 | k + 1 => by
  obtain ⟨ih0, ih1⟩ := standstillref08_Encode.mono_l k
  refine ⟨?_, ?_⟩
  ·intro y0 y1 y2
   unfold standstillref08_Encode.l0
   repeat' first
   | (with_reducible exact ih0 _ _ _)
   | (with_reducible exact ih1 _ _ _ _ _)
   | (with_reducible exact LeO.refl _)
   | (with_reducible exact LeO.none _)
   | (with_reducible refine LeO.ite ?_ ?_)
   | (with_reducible refine LeO.bind ?_ (fun _ => ?_))
   | exact ih0 _ _ _
   | exact ih1 _ _ _ _ _
   | exact LeO.none _
   | refine LeO.ite ?_ ?_
   | refine LeO.bind ?_ (fun _ => ?_)
  ·intro y0 y1 y2 y3 y4
   unfold standstillref08_Encode.l1
   repeat' first
   | (with_reducible exact ih0 _ _ _)
   | (with_reducible exact ih1 _ _ _ _ _)
   | (with_reducible exact LeO.refl _)
   | (with_reducible exact LeO.none _)
   | (with_reducible refine LeO.ite ?_ ?_)
   | (with_reducible refine LeO.bind ?_ (fun _ => ?_))
   | exact ih0 _ _ _
   | exact ih1 _ _ _ _ _
   | exact LeO.none _
   | refine LeO.ite ?_ ?_
   | refine LeO.bind ?_ (fun _ => ?_)
theorem standstillref08_Encode.mono : ∀ a0 k, LeO (standstillref08_Encode.f k a0) (standstillref08_Encode.f (k + 1) a0) := by
 intro a0 k
 obtain ⟨ih0, ih1⟩ := standstillref08_Encode.mono_l k
 unfold standstillref08_Encode.f
 repeat' first
   | (with_reducible exact ih0 _ _ _)
   | (with_reducible exact ih1 _ _ _ _ _)
   | (with_reducible exact LeO.refl _)
   | (with_reducible exact LeO.none _)
   | (with_reducible refine LeO.ite ?_ ?_)
   | (with_reducible refine LeO.bind ?_ (fun _ => ?_))
   | exact ih0 _ _ _
   | exact ih1 _ _ _ _ _
   | exact LeO.none _
   | refine LeO.ite ?_ ?_
   | refine LeO.bind ?_ (fun _ => ?_)
set_option maxHeartbeats 8000000 in
set_option maxRecDepth 100000 in
theorem standstillref08_Encode.calls (k : Nat) (A0 : Option Addr) (c0 : Nat) (l0 : List Int) (r1 : Int) (r2 : Bool) (w : World) (hr0 : Kd.C (Kd.int .i64) w A0 l0.length l0) (hc0 : l0.length ≤ c0) (h : standstillref08_Encode.f k l0 = some (r1, r2)) :
  Calls Try.prog 13 #[.slice A0 l0.length c0] w fun e w' => e = .returned (.tuple #[.int .i64 r1, .bool r2]) ∧ Below w.heap.size w w' := by
 have HR0 := Aside0.mk hr0
 have HC0 := Aside0.mk hc0
 clear hr0 hc0
 have HB := A_ (Below.refl w.heap.size w)
 have H : (standstillref08_Encode.l0 k l0 1 0) = some (r1, r2) := h
 clear h
 have H' := Aside0.mk H
 clear H
 go_enter Try.func13, Try.ntmps13
 go_wp2
 go_loopg [4, 5] k (fun kq v4 v5 w' => ∃ (x4_1 : Int) (x5_1 : Int), v4 = .int .i64 x4_1 ∧ v5 = .int .i64 x5_1 ∧ Aside0 (standstillref08_Encode.l0 kq l0 x4_1 x5_1 = some (r1, r2)) ∧ Aside0 (kq ≤ k) ∧ Aside0 (Below w.heap.size w w'))
 case atStart => exact ⟨(1), (0), jr_, jr_, H', ⟨Nat.le_refl _⟩, ⟨bk_ HB.out⟩⟩
 case round =>
  clear H'
  obtain ⟨x4_1, x5_1, rfl, rfl, HA, HK1, HB⟩ := hrel
  cases gk with
  | zero => exact absurd HA.out (by simp [standstillref08_Encode.l0])
  | succ k1 =>
   have H := HA.out
   clear HA
   simp only [standstillref08_Encode.l0] at H
   by_cases c2 : x5_1 < (l0.length : Int)
   ·rw [if_pos c2] at H
    have c2b0 : decide (x5_1 < (l0.length : Int)) = true := decide_eq_true c2
    clear c2
    replace H := Option.bind_eq_some_iff.mp H
    obtain ⟨t223, A30, H⟩ := H
    replace H : (if 0 ≤ x5_1 then (if x5_1 < (t223.length : Int) then (standstillref08_Encode.l1 k1 l0 x4_1 x5_1 (rd t223 x5_1) 0) else (none)) else (none)) = some (r1, r2) := H
    have A3 := Aside0.mk A30
    clear A30
    by_cases c4 : 0 ≤ x5_1
    ·rw [if_pos c4] at H
     have c4b0 : decide (0 ≤ x5_1) = true := decide_eq_true c4
     clear c4
     by_cases c5 : x5_1 < (t223.length : Int)
     ·rw [if_pos c5] at H
      have c5b0 : decide (x5_1 < (t223.length : Int)) = true := decide_eq_true c5
      clear c5
      have H' := Aside0.mk H
      clear H
      go_wp2_with (first | ((with_reducible refine gate_callee (f := 25) rfl ?_); refine goesL_ (some 14) rfl rfl Try.func25 (by kernel_rfl) rfl #[] rfl gl_ ?_; (with_reducible refine (standstillref08_primes.calls  t223 _ A3.out).mono ?_); rintro e w6 ⟨v224, rfl, ho0, hb⟩; refine ⟨_, rfl, ?_⟩; have n0_ := A_ (Kd.R_lower ho0 (below_size (bk_ HB.out))); have n1_ := A_ (below_step (bk_ HB.out) hb); clear HB; have HO225 := n0_; have HB := n1_; clear n0_ n1_; (try clear hb); (try clear hb2); (try clear hk); (try clear hi); (try clear ho0); obtain ⟨Ao7, co7, eo7⟩ := Kd.R_slice HO225.out; subst eo7; have p226 : 0 ≤ (x5_1 : Int) := od_; have q226 : x5_1 < (t223.length : Int) := od_; obtain ⟨ad226, e226, hx226_0⟩ := Kd.at_int (Kd.R_reads' HO225.out).2.2 x5_1 p226 q226; cases e226; replace p226 := eq_true p226; replace q226 := eq_true q226))
      go_loopg [4, 7] k1 (fun kq v4 v7 w' => ∃ (x4_2 : Int) (x7_2 : Int), v4 = .int .i64 x4_2 ∧ v7 = .int .i64 x7_2 ∧ Aside0 (standstillref08_Encode.l1 kq l0 x4_2 x5_1 (rd t223 x5_1) x7_2 = some (r1, r2)) ∧ Aside0 (kq ≤ k1) ∧ Aside0 (Below w.heap.size w w'))
      case atStart => exact ⟨(x4_1), (0), jr_, jr_, H', ⟨Nat.le_refl _⟩, ⟨bk_ HB.out⟩⟩
      case round =>
       clear H'
       (try clear c2); (try clear c2b0); (try clear c4); (try clear c4b0); (try clear c5); (try clear c5b0); (try clear hx226_0); (try clear p226); (try clear q226)
       obtain ⟨x4_2, x7_2, rfl, rfl, HA, HK2, HB⟩ := hrel
       cases gk with
       | zero => exact absurd HA.out (by simp [standstillref08_Encode.l1])
       | succ k2 =>
        have H := HA.out
        clear HA
        simp only [standstillref08_Encode.l1] at H
        by_cases c8 : 0 ≤ x5_1
        ·rw [if_pos c8] at H
         have c8b0 : decide (0 ≤ x5_1) = true := decide_eq_true c8
         clear c8
         by_cases c9 : x5_1 < (l0.length : Int)
         ·rw [if_pos c9] at H
          have c9b0 : decide (x5_1 < (l0.length : Int)) = true := decide_eq_true c9
          clear c9
          by_cases c10 : x7_2 < (rd l0 x5_1)
          ·rw [if_pos c10] at H
           have c10b0 : decide (x7_2 < (rd l0 x5_1)) = true := decide_eq_true c10
           clear c10
           by_cases c11 : (rd t223 x5_1) = 0
           ·rw [if_pos c11] at H
            exact absurd H (by simp)
           ·rw [if_neg c11] at H
            have c11b0 : ((rd t223 x5_1) == 0) = false := beq_eq_false_iff_ne.mpr c11
            have c11b1 : ((rd t223 x5_1) != 0) = true := bne_iff_ne.mpr c11
            by_cases c12 : x4_2 > (wrap64 (Int.tdiv (1152921504606846976 : Int) (rd t223 x5_1)))
            ·rw [if_pos c12] at H
             have c12b0 : decide ((wrap64 (Int.tdiv (1152921504606846976 : Int) (rd t223 x5_1))) < x4_2) = true := decide_eq_true c12
             clear c12
             simp only [Option.some.injEq, Prod.mk.injEq] at H
             obtain ⟨rfl, rfl⟩ := H
             have p227 : 0 ≤ (x5_1 : Int) := od_
             have q227 : x5_1 < (l0.length : Int) := od_
             obtain ⟨ad227, e227, hx227_0⟩ := Kd.at_int HR0.out x5_1 p227 q227
             cases e227
             replace hx227_0 := lf_ HB.out hx227_0
             replace p227 := eq_true p227
             replace q227 := eq_true q227
             go_wp2
             go_ret2
             exact ⟨er_, bk_ HB.out⟩
            ·rw [if_neg c12] at H
             have c12b0 : decide ((wrap64 (Int.tdiv (1152921504606846976 : Int) (rd t223 x5_1))) < x4_2) = false := decide_eq_false c12
             clear c12
             have H' := Aside0.mk H
             clear H
             have p227 : 0 ≤ (x5_1 : Int) := od_
             have q227 : x5_1 < (l0.length : Int) := od_
             obtain ⟨ad227, e227, hx227_0⟩ := Kd.at_int HR0.out x5_1 p227 q227
             cases e227
             replace hx227_0 := lf_ HB.out hx227_0
             replace p227 := eq_true p227
             replace q227 := eq_true q227
             go_wp2
             go_roundg k2
             case measure => have := HK1.out; have := HK2.out; omega
             case rel => exact ⟨(wrap64 (x4_2 * (rd t223 x5_1))), (wrap64 (x7_2 + 1)), jr_, jr_, H', ⟨by have := HK1.out; have := HK2.out; omega⟩, ⟨bk_ HB.out⟩⟩
          ·rw [if_neg c10] at H
           have c10b0 : decide (x7_2 < (rd l0 x5_1)) = false := decide_eq_false c10
           clear c10
           have H' := Aside0.mk H
           clear H
           have p227 : 0 ≤ (x5_1 : Int) := od_
           have q227 : x5_1 < (l0.length : Int) := od_
           obtain ⟨ad227, e227, hx227_0⟩ := Kd.at_int HR0.out x5_1 p227 q227
           cases e227
           replace hx227_0 := lf_ HB.out hx227_0
           replace p227 := eq_true p227
           replace q227 := eq_true q227
           go_wp2
           go_roundg k2
           case measure => have := HK1.out; have := HK2.out; omega
           case rel => exact ⟨(x4_2), (wrap64 (x5_1 + 1)), jr_, jr_, H', ⟨by have := HK1.out; have := HK2.out; omega⟩, ⟨bk_ HB.out⟩⟩
         ·rw [if_neg c9] at H
          exact absurd H (by simp)
        ·rw [if_neg c8] at H
         exact absurd H (by simp)
     ·rw [if_neg c5] at H
      exact absurd H (by simp)
    ·rw [if_neg c4] at H
     exact absurd H (by simp)
   ·rw [if_neg c2] at H
    have c2b0 : decide (x5_1 < (l0.length : Int)) = false := decide_eq_false c2
    clear c2
    simp only [Option.some.injEq, Prod.mk.injEq] at H
    obtain ⟨rfl, rfl⟩ := H
    go_wp2
    go_ret2
    exact ⟨er_, bk_ HB.out⟩

end Go.Proofs.Ytkbekdjoaibhbaa.PPairCodes
